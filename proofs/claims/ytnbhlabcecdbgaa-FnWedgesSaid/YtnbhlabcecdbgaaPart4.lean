/-
  Contracts and plain laws, part 4: Draw, Top5B, DrawV, DrawP, Draw4, Draw4S, TopB, AlgB, Dual.
  No condition.
-/
import Derived.Test.YtnbhlabcecdbgaaPart3
import Derived.Test.YtnbhlabcecdbgaaPart0
import Derived.Test.YtnbhlabcecdbgaaPart2
/-
  Draws of numbers, lists and spaces: what they leave.
  No condition.
-/
namespace Go.Proofs.Ytnbhlabcecdbgaa
set_option maxRecDepth 100000
open Go.RowKit

/-- The cells of a row that is written out. -/
theorem rdC_lit (w : World) (T : TypeId) (xs : List Int) : RdC (w.alloc (.cells (xs.map (.int .i64)).toArray T)) (some ⟨w.heap.size, 0, none⟩) xs.length xs := by
  refine ⟨rfl, fun i hi => ⟨w.heap.size, 0, rfl, ?_⟩⟩
  simp [hi, nth_eq hi]

theorem nth_in {xs : List Int} {i : Nat} (h : i < xs.length) : nth xs i ∈ xs := nth_mem h

set_option maxHeartbeats 400000 in
theorem s_pick (S : SrcP) (b m cap : Nat) (xs : List Int) (w : World) (hS : Src S w) (hm : 0 < m) (hm2 : m ≤ 1000) (hx : RdC w (some ⟨b, 0, none⟩) m xs) (hb : b ≠ S.g) :
    Calls Try.prog 65 #[.pointer (some ⟨S.g, 0, none⟩), .slice (some ⟨b, 0, none⟩) m cap] w fun e w' => ∃ r, e = .returned (.int .i64 r) ∧ r ∈ xs ∧ Drw S w w' := by
  have HX := Lib.hid hx
  clear hx
  go_enter Try.func65, Try.ntmps65
  have arm : ∀ r : Int, NextR m r → ∃ k : Nat, r = (k : Int) ∧ k < m ∧ w.cell? ⟨b, k, none⟩ = some (.int .i64 (nth xs k)) := by
    intro r hr
    have hr1 := hr.2 (by omega)
    refine ⟨r.toNat, by omega, by omega, ?_⟩
    obtain ⟨b', o', hab, hc⟩ := HX.out.2 r.toNat (by omega)
    simp only [Option.some.injEq, Addr.mk.injEq] at hab
    obtain ⟨rfl, rfl, _⟩ := hab
    simpa using hc
  have hm0 : (m : Int) ≤ 9223372036854775807 := by omega
  go_wp2_with (go_at_call 51; refine (s_next S m _ hS hm0).mono ?_; rintro e w1 ⟨r, rfl, hr, g1⟩; obtain ⟨k, rfl, hk, hc⟩ := arm r hr; have hc1 := g1.cell (p := ⟨b, k, none⟩) hb hc)
  go_ret
  exact ⟨_, rfl, nth_mem (by rw [HX.out.1]; exact hk), g1⟩

set_option maxHeartbeats 400000 in
theorem s_drawPrime (S : SrcP) (w : World) (hS : Src S w) :
    Calls Try.prog 99 #[.pointer (some ⟨S.g, 0, none⟩)] w fun e w' => ∃ p, e = .returned (.int .i64 p) ∧ primeB p = true ∧ 3 ≤ p ∧ p ≤ 13 ∧ Drw S w w' := by
  have hlt := hS.lt
  go_enter Try.func99, Try.ntmps99
  go_wp2_with (go_at_call 65; refine Calls.mono (s_pick S _ _ _ _ _ ((Drw.of_ext (ext_alloc _ _)).src hS) (by omega) (by omega) (rdC_lit w _ [3, 5, 7, 11, 13, 3, 5, 7]) (Nat.ne_of_gt hlt)) ?_; rintro e w1 ⟨r, rfl, hr, g1⟩)
  go_ret
  have hp : primeB r = true ∧ 3 ≤ r ∧ r ≤ 13 := by
    simp only [List.mem_cons, List.not_mem_nil, or_false] at hr
    rcases hr with rfl | rfl | rfl | rfl | rfl | rfl | rfl | rfl <;> decide +kernel
  exact ⟨r, rfl, hp.1, hp.2.1, hp.2.2, (Drw.of_ext (ext_alloc _ _)).trans g1⟩
set_option maxHeartbeats 1000000 in
theorem s_dlist (S : SrcP) (p : Int) (n : Nat) (w : World) (hS : Src S w) (hp : p ≤ 9223372036854775807) (hn : n ≤ 1000) :
    Calls Try.prog 91 #[.pointer (some ⟨S.g, 0, none⟩), .int .i64 p, .int .i64 n] w fun e w' => ∃ a cap xs, e = .returned (.slice a n cap) ∧ OwnC w.heap.size w' a n cap xs ∧ (1 ≤ p → isB p xs = true) ∧ Drw S w w' := by
  have HS := Lib.hid hS
  have hlt := hS.lt
  clear hS
  go_enter Try.func91, Try.ntmps91
  go_wp2_with (fail)
  go_loopw [2, 7] (fun i o wr => ∃ (k : Nat) (a : Option Addr) (cap : Nat) (xs : List Int), k ≤ n ∧ i = .int .i64 ((n - k : Nat) : Int) ∧ o = .slice a k cap ∧ OwnC w.heap.size wr a k cap xs ∧ Hid (1 ≤ p → isB p xs = true) ∧ Hid (Drw S w wr)) (fun i o _ => (intOf i).toNat)
  case atStart => exact ⟨0, _, 0, [], Nat.zero_le _, by simp, rfl, own_empty w, Lib.hid (fun _ => by simp [isB]), Lib.hid (Drw.of_ext (ext_alloc _ _))⟩
  case round =>
    obtain ⟨k, a, cap, xs, hk, rfl, rfl, ho, HB, HD⟩ := hrel
    have HO := Lib.hid ho
    clear ho
    by_cases hkn : k < n
    · obtain ⟨m, hm⟩ : ∃ m : Nat, n - k = m + 1 := ⟨n - k - 1, by omega⟩
      rw [hm]
      go_wp2_with (first | (go_at_call 51; refine (s_next S p wr (HD.out.src HS.out) hp).mono ?_; rintro e w1 ⟨r, rfl, hr, g1⟩; have HR := Lib.hid hr; have G1 := Lib.hid g1; clear hr g1) | (at_builtin; refine wpList_push rfl (.tmp 13) (.tmp 17) rfl rfl rfl (v := r) ((G1.out.own HO.out hlt).ext (ext_alloc _ _)) ?hc ?hn ?hB ?hk))
      case hc => simp
      case hn => omega
      case hB => exact Nat.le_trans HD.out.size (Nat.le_trans G1.out.size (by simp))
      case hk =>
        intro g' cap' w3 ho3 hg3 he3
        have HO3 := Lib.hid ho3
        have HD3 := Lib.hid (((HD.out.trans G1.out).alloc _).grown hg3 (fun k hk => HO.out.blk k hk))
        clear ho3 hg3 he3
        go_wp2_with (fail)
        go_roundw
        case rel => exact ⟨k + 1, _, cap', _, by omega, by go_num, rfl, HO3.out, Lib.hid (fun h => by
          have h1 := HB.out h
          have h2 := HR.out.2 h
          unfold isB at h1 ⊢
          rw [List.all_append, h1]
          simp [inB]; omega), HD3⟩
        case measure => simp [intOf]
    · have hk0 : n - k = 0 := by omega
      rw [hk0]
      go_wp2_with (fail)
      go_ret
      obtain rfl : k = n := by omega
      exact ⟨a, cap, xs, rfl, HO.out, HB.out, HD.out⟩
set_option maxHeartbeats 1000000 in
theorem l_list5 (S : SrcP) (p : Int) (n : Nat) (w : World) (hS : Src S w) (hp : p ≤ 9223372036854775807) (hn : n ≤ 1000) :
    Calls Try.prog 9 #[.pointer (some ⟨S.g, 0, none⟩), .int .i64 n, .int .i64 p] w fun e w' => ∃ a cap xs, e = .returned (.slice a n cap) ∧ OwnC w.heap.size w' a n cap xs ∧ (1 ≤ p → isB p xs = true) ∧ Drw S w w' := by
  have HS := Lib.hid hS
  have hlt := hS.lt
  clear hS
  go_enter Try.func9, Try.ntmps9
  go_wp2_with (fail)
  go_loopw [1, 7] (fun i o wr => ∃ (k : Nat) (a : Option Addr) (cap : Nat) (xs : List Int), k ≤ n ∧ i = .int .i64 ((n - k : Nat) : Int) ∧ o = .slice a k cap ∧ OwnC w.heap.size wr a k cap xs ∧ Hid (1 ≤ p → isB p xs = true) ∧ Hid (Drw S w wr)) (fun i o _ => (intOf i).toNat)
  case atStart => exact ⟨0, _, 0, [], Nat.zero_le _, by simp, rfl, own_empty w, Lib.hid (fun _ => by simp [isB]), Lib.hid (Drw.of_ext (ext_alloc _ _))⟩
  case round =>
    obtain ⟨k, a, cap, xs, hk, rfl, rfl, ho, HB, HD⟩ := hrel
    have HO := Lib.hid ho
    clear ho
    by_cases hkn : k < n
    · obtain ⟨m, hm⟩ : ∃ m : Nat, n - k = m + 1 := ⟨n - k - 1, by omega⟩
      rw [hm]
      go_wp2_with (first | (go_at_call 25; refine (l_below S p wr (HD.out.src HS.out) hp).mono ?_; rintro e w1 ⟨r, rfl, hr, g1⟩; have HR := Lib.hid hr; have G1 := Lib.hid g1; clear hr g1) | (at_builtin; refine wpList_push rfl (.tmp 13) (.tmp 17) rfl rfl rfl (v := r) ((G1.out.own HO.out hlt).ext (ext_alloc _ _)) ?hc ?hn ?hB ?hk))
      case hc => simp
      case hn => omega
      case hB => exact Nat.le_trans HD.out.size (Nat.le_trans G1.out.size (by simp))
      case hk =>
        intro g' cap' w3 ho3 hg3 he3
        have HO3 := Lib.hid ho3
        have HD3 := Lib.hid (((HD.out.trans G1.out).alloc _).grown hg3 (fun k hk => HO.out.blk k hk))
        clear ho3 hg3 he3
        go_wp2_with (fail)
        go_roundw
        case rel => exact ⟨k + 1, _, cap', _, by omega, by go_num, rfl, HO3.out, Lib.hid (fun h => by
          have h1 := HB.out h
          have h2 := HR.out.2 h
          unfold isB at h1 ⊢
          rw [List.all_append, h1]
          simp [inB]; omega), HD3⟩
        case measure => simp [intOf]
    · have hk0 : n - k = 0 := by omega
      rw [hk0]
      go_wp2_with (fail)
      go_ret
      obtain rfl : k = n := by omega
      exact ⟨a, cap, xs, rfl, HO.out, HB.out, HD.out⟩

/-- A struct of a prime and a slice in a block. -/
structure SpAt (w : World) (O : Nat) (p : Int) (v : Value) : Prop where
  c0 : w.cell? ⟨O, 0, none⟩ = some (.int .i64 p)
  c1 : w.cell? ⟨O, 1, none⟩ = some v
  f0 : w.frozen? ⟨O, 0, none⟩ = false
  f1 : w.frozen? ⟨O, 1, none⟩ = false
theorem SpAt.block {w w' : World} {O : Nat} {p : Int} {v : Value} (h : SpAt w O p v) (hb : w'.heap[O]? = w.heap[O]?) : SpAt w' O p v :=
  ⟨by rw [World.cell?_of_block (w := w) hb]; exact h.c0, by rw [World.cell?_of_block (w := w) hb]; exact h.c1, by rw [World.frozen?_of_block (w := w) hb]; exact h.f0, by rw [World.frozen?_of_block (w := w) hb]; exact h.f1⟩
theorem SpAt.lt {w : World} {O : Nat} {p : Int} {v : Value} (h : SpAt w O p v) : O < w.heap.size := lt_of_cell h.c0
theorem SpAt.below {w w' : World} {O B : Nat} {p : Int} {v : Value} (h : SpAt w O p v) (hb : Below B w w') (hO : O < B) : SpAt w' O p v := h.block (hb.block O hO)
theorem SpAt.ext {w w' : World} {O : Nat} {p : Int} {v : Value} (h : SpAt w O p v) (hb : Ext w w') : SpAt w' O p v := h.below hb h.lt
theorem SpAt.drw {S : SrcP} {w w' : World} {O : Nat} {p : Int} {v : Value} (h : SpAt w O p v) (hd : Drw S w w') (ho : O ≠ S.g) : SpAt w' O p v := h.block (hd.block O h.lt ho)
theorem SpAt.set0 {w : World} {O : Nat} {p : Int} {v : Value} (h : SpAt w O p v) (q : Int) : SpAt (w.setCell ⟨O, 0, none⟩ (.int .i64 q)) O q v := by
  obtain ⟨h0, h1, h2, h3⟩ := h
  exact ⟨by go_simp, by go_simp, by go_simp, by go_simp⟩
theorem SpAt.set1 {w : World} {O : Nat} {p : Int} {v : Value} (h : SpAt w O p v) (u : Value) : SpAt (w.setCell ⟨O, 1, none⟩ u) O p u := by
  obtain ⟨h0, h1, h2, h3⟩ := h
  exact ⟨by go_simp, by go_simp, by go_simp, by go_simp⟩
theorem SpAt.other {w : World} {O : Nat} {p : Int} {v : Value} (h : SpAt w O p v) {q : Addr} (hq : q.block ≠ O) (u : Value) : SpAt (w.setCell q u) O p v := h.block (Below.heap_setCell _ _ _ _ (Ne.symm hq))

/-- The length of the slice in a block's second cell. -/
def lenAt (w : World) (O : Nat) : Nat := match w.cell? ⟨O, 1, none⟩ with | some (.slice _ n _) => n | _ => 0
theorem lenAt_of {w : World} {O : Nat} {p : Int} {a : Option Addr} {n c : Nat} (h : SpAt w O p (.slice a n c)) : lenAt w O = n := by simp [lenAt, h.c1]

set_option maxHeartbeats 4000000 in
theorem s_any (S : SrcP) (m : Nat) (w : World) (hS : Src S w) (hm1 : 1 ≤ m) (hm : m ≤ 6) :
    Calls Try.prog 90 #[.pointer (some ⟨S.g, 0, none⟩), .int .i64 m] w fun e w' => ∃ p a d cap qs, e = .returned (.agg #[.int .i64 p, .slice a d cap]) ∧ primeB p = true ∧ 3 ≤ p ∧ p ≤ 13 ∧ 1 ≤ d ∧ d ≤ m ∧ isB p qs = true ∧ OwnC w.heap.size w' a d cap qs ∧ Drw S w w' := by
  have HS := Lib.hid hS
  have hlt := hS.lt
  clear hS
  obtain ⟨W, hW⟩ : ∃ W, W = w.alloc (.cells #[.int .i64 0, .slice none 0 0] 26) := ⟨_, rfl⟩
  have gW : Ext w W := by rw [hW]; exact ext_alloc _ _
  have hR : SpAt W w.heap.size 0 (.slice none 0 0) := by rw [hW]; exact ⟨by simp, by simp, by simp, by simp⟩
  have HR := Lib.hid hR
  have GW := Lib.hid gW
  have HW := Lib.hid hW
  clear hR gW hW
  go_enter Try.func90, Try.ntmps90
  go_wp2_with (fail)
  rw [← HW.out]
  refine Calls.mono (s_drawPrime S W ((Drw.of_ext GW.out).src HS.out)) ?_
  rintro e w1 ⟨p, rfl, hpr, hp1, hp2, g1⟩
  have HR1 := Lib.hid (HR.out.drw g1 (Nat.ne_of_gt hlt))
  have G1 := Lib.hid ((Drw.of_ext GW.out).trans g1)
  clear g1
  go_wp2_with (fail)
  obtain ⟨W2, hW2⟩ : ∃ W2, W2 = w1.alloc (.cells #[.int .i64 p, .slice none 0 0] 26) := ⟨_, rfl⟩
  obtain ⟨O, hO⟩ : ∃ O, O = w1.heap.size := ⟨_, rfl⟩
  have gW2 : Ext w1 W2 := by rw [hW2]; exact ext_alloc _ _
  have hOA : SpAt W2 O p (.slice none 0 0) := by rw [hW2, hO]; exact ⟨by simp, by simp, by simp, by simp⟩
  rw [← hW2, ← hO]
  have hOw : w.heap.size < O := by rw [hO]; exact HR1.out.lt
  have HOA := Lib.hid hOA
  have HR2 := Lib.hid (HR1.out.ext gW2)
  have G2 := Lib.hid (G1.out.ext gW2)
  have hm0 : (m : Int) ≤ 9223372036854775807 := by omega
  have hgO : O ≠ S.g := by omega
  have hgR : w.heap.size ≠ S.g := by omega
  clear hW2 hO gW2 hOA HR1 G1
  refine Calls.mono (s_next S m W2 (G2.out.src HS.out) hm0) ?_
  rintro e w2 ⟨r0, rfl, hr0, g2⟩
  obtain ⟨N, hN, hN1, hN2⟩ : ∃ N : Nat, 1 + r0 = (N : Int) ∧ 1 ≤ N ∧ N ≤ m := ⟨(1 + r0).toNat, by have := hr0.2 (by omega); omega, by have := hr0.2 (by omega); omega, by have := hr0.2 (by omega); omega⟩
  have HR3 := Lib.hid (HR2.out.drw g2 hgR)
  have HO3 := Lib.hid (HOA.out.drw g2 hgO)
  have G3 := Lib.hid (G2.out.trans g2)
  have hwN : IntKind.i64.wrap (1 + r0) = N := by rw [hN]; exact IntWalk.i64_in _ (by omega)
  have hwN' : wrap64 (1 + r0) = N := by rw [hN]; unfold wrap64; omega
  clear g2 hr0 HR2 HOA G2
  go_wp2_with (fail)
  go_loopw [7] (fun i wr => ∃ (k : Nat) (a : Option Addr) (cap : Nat) (qs : List Int), k ≤ N ∧ i = .int .i64 ((N - k : Nat) : Int) ∧ Hid (SpAt wr w.heap.size 0 (.slice none 0 0)) ∧ Hid (SpAt wr O p (.slice a k cap)) ∧ Hid (OwnC (O + 1) wr a k cap qs) ∧ Hid (isB p qs = true) ∧ Hid (Drw S w wr)) (fun i _ => (intOf i).toNat)
  case atStart => exact ⟨0, none, 0, [], Nat.zero_le _, by simp, HR3, HO3, Lib.hid (own_nil _ _), Lib.hid (by simp [isB]), G3⟩
  case round =>
    obtain ⟨k, a, cap, qs, hk, rfl, HR, HO, HQ, HB, HD⟩ := hrel
    clear HR3 HO3 G3
    by_cases hkn : k < N
    · obtain ⟨j, hj⟩ : ∃ j : Nat, N - k = j + 1 := ⟨N - k - 1, by omega⟩
      rw [hj]
      have hp3 : p - 1 ≤ 9223372036854775807 := by omega
      have hwp : wrap64 (p - 1) = p - 1 := by unfold wrap64; omega
      go_wp2_with (fail)
      refine Calls.mono (s_next S (p - 1) wr (HD.out.src HS.out) hp3) ?_
      rintro e w3 ⟨r1, rfl, hr1, g3⟩
      have hr1' := hr1.2 (by omega)
      have HR4 := Lib.hid (HR.out.drw g3 hgR)
      have HO4 := Lib.hid (HO.out.drw g3 hgO)
      have HQ4 := Lib.hid (g3.own HQ.out (by omega))
      have HD4 := Lib.hid (HD.out.trans g3)
      have hwr : wrap64 (1 + r1) = 1 + r1 := by unfold wrap64; omega
      clear g3 hr1 HR HO HQ HD
      go_wp2_with (fail)
      refine Calls.mono (s_pick S w3.heap.size 4 4 [1, p - 1, 1 + r1, 1] _ ((HD4.out.alloc _).src HS.out) (by decide) (by decide) (rdC_lit w3 _ [1, p - 1, 1 + r1, 1]) (by have := HD4.out.size; omega)) ?_
      rintro e w4 ⟨r2, rfl, hr2, g4⟩
      have hr2' : 0 ≤ r2 ∧ r2 < p := by
        simp only [List.mem_cons, List.not_mem_nil, or_false] at hr2
        omega
      have HR5 := Lib.hid ((HR4.out.ext (ext_alloc _ _)).drw g4 hgR)
      have HO5 := Lib.hid ((HO4.out.ext (ext_alloc _ _)).drw g4 hgO)
      have HQ5 := Lib.hid (g4.own (HQ4.out.ext (ext_alloc _ _)) (by omega))
      have HD5 := Lib.hid ((HD4.out.alloc _).trans g4)
      clear g4 hr2 HR4 HO4 HQ4 HD4
      go_wp2_with (fail)
      refine Calls.mono (s_next S 10 w4 (HD5.out.src HS.out) (by decide)) ?_
      rintro e w5 ⟨r3, rfl, hr3, g5⟩
      have HR6 := Lib.hid (HR5.out.drw g5 hgR)
      have HO6 := Lib.hid (HO5.out.drw g5 hgO)
      have HQ6 := Lib.hid (g5.own HQ5.out (by omega))
      have HD6 := Lib.hid (HD5.out.trans g5)
      have c1 := HO6.out.c1
      clear g5 hr3 HR5 HO5 HQ5 HD5
      have h0 : (0 : Int) ≤ 0 ∧ (0 : Int) < p := by omega
      by_cases hb : r3 = 0
      · have hbb : (r3 == 0) = true := by simp [hb]
        go_wp2_with (at_builtin; refine wpList_push rfl (.tmp 35) (.tmp 37) rfl rfl rfl (v := 0) (HQ6.out.ext (ext_alloc _ _)) ?hc ?hn ?hB ?hk)
        case hc => simp
        case hn => omega
        case hB => have := HO6.out.lt; simp; omega
        case hk =>
          intro g' cap' w6 ho6 hg6 he6
          have hbl : Below (O + 1) w5 w6 := (Below.refl _ _).trans (((Below.refl (O + 1) _).alloc (by have := HO6.out.lt; omega) _).grown hg6 (by have := HO6.out.lt; simp; omega) (fun k hk => HQ6.out.blk k hk))
          have HO7 := Lib.hid (HO6.out.below hbl (by omega))
          have HR7 := Lib.hid (HR6.out.below hbl (by omega))
          have HD7 := Lib.hid (HD6.out.below (hbl.mono (by omega)))
          have HQ7 := Lib.hid ho6
          have c1' := HO7.out.c1
          have f1' := HO7.out.f1
          clear hbl ho6 hg6 he6 c1
          go_wp2_with (fail)
          go_roundw
          case rel => exact ⟨k + 1, _, cap', _, by omega, by go_num, Lib.hid (HR7.out.other (by simp; omega) _), Lib.hid (HO7.out.set1 _), Lib.hid (HQ7.out.other (by simp) _), Lib.hid (by
              have h1 := HB.out
              unfold isB at h1 ⊢
              rw [List.all_append, h1]
              simp [inB]; omega), Lib.hid (HD7.out.setCell (by simp; omega) _)⟩
          case measure => simp [intOf]
      · have hbb : (r3 == 0) = false := by simp [hb]
        go_wp2_with (at_builtin; refine wpList_push rfl (.tmp 35) (.tmp 37) rfl rfl rfl (v := r2) (HQ6.out.ext (ext_alloc _ _)) ?hc ?hn ?hB ?hk)
        case hc => simp
        case hn => omega
        case hB => have := HO6.out.lt; simp; omega
        case hk =>
          intro g' cap' w6 ho6 hg6 he6
          have hbl : Below (O + 1) w5 w6 := (Below.refl _ _).trans (((Below.refl (O + 1) _).alloc (by have := HO6.out.lt; omega) _).grown hg6 (by have := HO6.out.lt; simp; omega) (fun k hk => HQ6.out.blk k hk))
          have HO7 := Lib.hid (HO6.out.below hbl (by omega))
          have HR7 := Lib.hid (HR6.out.below hbl (by omega))
          have HD7 := Lib.hid (HD6.out.below (hbl.mono (by omega)))
          have HQ7 := Lib.hid ho6
          have c1' := HO7.out.c1
          have f1' := HO7.out.f1
          clear hbl ho6 hg6 he6 c1
          go_wp2_with (fail)
          go_roundw
          case rel => exact ⟨k + 1, _, cap', _, by omega, by go_num, Lib.hid (HR7.out.other (by simp; omega) _), Lib.hid (HO7.out.set1 _), Lib.hid (HQ7.out.other (by simp) _), Lib.hid (by
              have h1 := HB.out
              unfold isB at h1 ⊢
              rw [List.all_append, h1]
              simp [inB]; omega), Lib.hid (HD7.out.setCell (by simp; omega) _)⟩
          case measure => simp [intOf]
    · have hk0 : N - k = 0 := by omega
      rw [hk0]
      obtain rfl : k = N := by omega
      have o0 := HO.out.c0
      have o1 := HO.out.c1
      have r0 := HR.out.c0
      have r1 := HR.out.c1
      have f0 := HR.out.f0
      have f1 := HR.out.f1
      go_wp2_with (fail)
      refine bodyPost_ret (v := .agg #[.int .i64 p, .slice a k cap]) (by simp [results, Try.results90, go_sem, r0, r1]) rfl ⟨p, a, k, cap, qs, rfl, hpr, hp1, hp2, hN1, hN2, HB.out, ?_, ?_⟩
      · exact ((HQ.out.other (by simp; omega) _).other (by simp; omega) _).mono (by omega)
      · exact (HD.out.setCell (by simp) _).setCell (by simp) _

set_option maxHeartbeats 1000000 in
theorem s_draw3 (S : SrcP) (w : World) (hS : Src S w) :
    Calls Try.prog 64 #[.pointer (some ⟨S.g, 0, none⟩)] w fun e w' => ∃ p a d cap qs, e = .returned (.agg #[.int .i64 p, .slice a d cap]) ∧ primeB p = true ∧ 3 ≤ p ∧ p ≤ 13 ∧ 1 ≤ d ∧ d ≤ 6 ∧ isB p qs = true ∧ OwnC w.heap.size w' a d cap qs ∧ Drw S w w' := by
  have HS := Lib.hid hS
  have hlt := hS.lt
  clear hS
  obtain ⟨W, hW⟩ : ∃ W, W = w.alloc (.cells #[.int .i64 0, .slice none 0 0] 26) := ⟨_, rfl⟩
  have gW : Ext w W := by rw [hW]; exact ext_alloc _ _
  have HZ := Lib.hid (show W.heap.size = w.heap.size + 1 by rw [hW]; simp)
  have HR := Lib.hid (show SpAt W w.heap.size 0 (.slice none 0 0) by rw [hW]; exact ⟨by simp, by simp, by simp, by simp⟩)
  have HW := Lib.hid hW
  have GW := Lib.hid (Drw.of_ext (S := S) gW)
  have hgR : w.heap.size ≠ S.g := by omega
  clear gW hW
  go_enter Try.func64, Try.ntmps64
  go_wp2_with (fail)
  rw [← HW.out]
  refine Calls.mono (s_pick S (w.heap.size + 1) 5 5 [2, 3, 3, 4, 6] _ ((GW.out.alloc _).src HS.out) (by decide) (by decide) (by rw [← HZ.out]; exact rdC_lit W _ [2, 3, 3, 4, 6]) (by omega)) ?_
  rintro e w2 ⟨r, rfl, hr, g2⟩
  obtain ⟨m, rfl, hm1, hm2⟩ : ∃ m : Nat, r = (m : Int) ∧ 1 ≤ m ∧ m ≤ 6 := by
    refine ⟨r.toNat, ?_⟩
    simp only [List.mem_cons, List.not_mem_nil, or_false] at hr
    omega
  have HR2 := Lib.hid ((HR.out.ext (ext_alloc _ _)).drw g2 hgR)
  have G2 := Lib.hid ((GW.out.alloc _).trans g2)
  clear g2 hr HR
  go_wp2_with (fail)
  refine Calls.mono (s_any S m w2 (G2.out.src HS.out) hm1 hm2) ?_
  rintro e w3 ⟨p, a, d, cap, qs, rfl, hpr, hp1, hp2, hd1, hd2, hqb, ho, g3⟩
  have r0 := (HR2.out.drw g3 hgR).c0
  have r1 := (HR2.out.drw g3 hgR).c1
  have f0 := (HR2.out.drw g3 hgR).f0
  have f1 := (HR2.out.drw g3 hgR).f1
  have hlw := HR2.out.lt
  have HO := Lib.hid ho
  have G3 := Lib.hid (G2.out.trans g3)
  clear ho g3
  go_wp2_with (fail)
  refine bodyPost_ret (v := .agg #[.int .i64 p, .slice a d cap]) (by simp [results, Try.results64, go_sem, r0, r1]) rfl ⟨p, a, d, cap, qs, rfl, hpr, hp1, hp2, hd1, by omega, hqb, ?_, ?_⟩
  · exact ((HO.out.other (by simp; omega) _).other (by simp; omega) _).mono (by omega)
  · exact (G3.out.setCell (by simp) _).setCell (by simp) _

namespace Chg
/-- A written row that is not the source. -/
def SPred.lit (S : SrcP) (n : Nat) (xs : List Int) : SPred (Drw.rel S) :=
  ⟨fun v w => ∃ b, v = .slice (some ⟨b, 0, none⟩) n n ∧ RdC w (some ⟨b, 0, none⟩) n xs ∧ b ≠ S.g, fun _ _ _ ⟨b, h1, h2, h3⟩ he => ⟨b, h1, ⟨h2.1, fun i hi => by
    obtain ⟨b', o, hb, hc⟩ := h2.2 i hi
    simp only [Option.some.injEq, Addr.mk.injEq] at hb
    obtain ⟨rfl, rfl, _⟩ := hb
    exact ⟨b, 0, rfl, Drw.cell he h3 hc⟩⟩, h3⟩⟩
/-- Some number. -/
def SPred.some_ (S : SrcP) : SPred (Drw.rel S) := ⟨fun v _ => ∃ r, v = .int .i64 r, fun _ _ _ h _ => h⟩
/-- A number from 0 on below another one. -/
def SPred.lt (S : SrcP) (n : Int) : SPred (Drw.rel S) := ⟨fun v _ => ∃ r, v = .int .i64 r ∧ 0 ≤ r ∧ r < n, fun _ _ _ h _ => h⟩
end Chg

set_option maxHeartbeats 4000000 in
theorem s_spoil3 (S : SrcP) (w : World) (hS : Src S w) :
    Calls Try.prog 38 #[.pointer (some ⟨S.g, 0, none⟩)] w fun e w' => ∃ p a d cap qs, e = .returned (.agg #[.int .i64 p, .slice a d cap]) ∧ 0 ≤ p ∧ p ≤ 17 ∧ d ≤ 7 ∧ OwnC w.heap.size w' a d cap qs ∧ Drw S w w' := by
  have HS := Lib.hid hS
  have hlt := hS.lt
  clear hS
  obtain ⟨W, hW⟩ : ∃ W, W = w.alloc (.cells #[.int .i64 0, .slice none 0 0] 26) := ⟨_, rfl⟩
  have gW : Ext w W := by rw [hW]; exact ext_alloc _ _
  have HZ := Lib.hid (show W.heap.size = w.heap.size + 1 by rw [hW]; simp)
  have HR := Lib.hid (show SpAt W w.heap.size 0 (.slice none 0 0) by rw [hW]; exact ⟨by simp, by simp, by simp, by simp⟩)
  have HW := Lib.hid hW
  have GW := Lib.hid (Drw.of_ext (S := S) gW)
  have hgR : w.heap.size ≠ S.g := by omega
  clear gW hW
  go_enter Try.func38, Try.ntmps38
  go_wp2_with (fail)
  rw [← HW.out]
  refine Calls.mono (s_draw3 S W (GW.out.src HS.out)) ?_
  rintro e w1 ⟨p, a, d, cap, qs, rfl, hpr, hp1, hp2, hd1, hd2, hqb, ho, g1⟩
  obtain ⟨W2, hW2⟩ : ∃ W2, W2 = w1.alloc (.cells #[.int .i64 p, .slice a d cap] 26) := ⟨_, rfl⟩
  obtain ⟨O, hO⟩ : ∃ O, O = w1.heap.size := ⟨_, rfl⟩
  have gW2 : Ext w1 W2 := by rw [hW2]; exact ext_alloc _ _
  have hOA : SpAt W2 O p (.slice a d cap) := by rw [hW2, hO]; exact ⟨by simp, by simp, by simp, by simp⟩
  have HR1 := Lib.hid ((HR.out.drw g1 hgR).ext gW2)
  have hoB : OwnC (w.heap.size + 1) w1 a d cap qs := by rw [← HZ.out]; exact ho
  have HQ1 := Lib.hid (hoB.ext gW2)
  have G1 := Lib.hid ((GW.out.trans g1).ext gW2)
  have hOw : w.heap.size < O := by rw [hO]; exact (HR.out.drw g1 hgR).lt
  have hOQ : ∀ g, a = some ⟨g, 0, none⟩ → w.heap.size + 1 ≤ g ∧ g < O := fun g hg => by have := ho.base_of g hg; have := HZ.out; omega
  have hgO : O ≠ S.g := by omega
  go_wp2_with (fail)
  rw [← hW2, ← hO]
  have HOA := Lib.hid hOA
  clear hO gW2 ho hoB g1 hW2 hOA HR
  refine Calls.mono (s_next S 40 W2 (G1.out.src HS.out) (by decide)) ?_
  rintro e w2 ⟨r, rfl, hr, g2⟩
  have HR2 := Lib.hid (HR1.out.drw g2 hgR)
  have HO2 := Lib.hid (HOA.out.drw g2 hgO)
  have HQ2 := Lib.hid (g2.own HQ1.out (by omega))
  have G2 := Lib.hid (G1.out.trans g2)
  clear g2 HR1 HOA HQ1 G1 hr
  by_cases h0 : r = 0
  · subst h0
    go_wp2_with (fail)
    refine Calls.mono (s_pick S w2.heap.size 4 4 [4, 1, 17, 0] _ ((G2.out.alloc _).src HS.out) (by decide) (by decide) (rdC_lit w2 _ [4, 1, 17, 0]) (by have := HO2.out.lt; omega)) ?_
    rintro e w3 ⟨q, rfl, hq, g3⟩
    have hq' : 0 ≤ q ∧ q ≤ 17 := by
      simp only [List.mem_cons, List.not_mem_nil, or_false] at hq
      omega
    have HR3 := Lib.hid ((HR2.out.ext (ext_alloc _ _)).drw g3 hgR)
    have HO3 := Lib.hid ((HO2.out.ext (ext_alloc _ _)).drw g3 hgO)
    have HQ3 := Lib.hid (g3.own (HQ2.out.ext (ext_alloc _ _)) (by omega))
    have G3 := Lib.hid ((G2.out.alloc _).trans g3)
    clear g3 HR2 HO2 HQ2 G2 hq
    have o0 := HO3.out.c0
    have o1 := HO3.out.c1
    have of0 := HO3.out.f0
    have of1 := HO3.out.f1
    have r0 := HR3.out.c0
    have r1 := HR3.out.c1
    have f0 := HR3.out.f0
    have f1 := HR3.out.f1
    go_wp2_with (fail)
    refine bodyPost_ret (v := .agg #[.int .i64 q, .slice a d cap]) (by simp [results, Try.results38, go_sem, r0, r1]) rfl ⟨q, a, d, cap, qs, rfl, hq'.1, hq'.2, by omega, ?_, ?_⟩
    · exact (((HQ3.out.keep (fun g hg => Below.heap_setCell _ _ _ _ (by have := hOQ g hg; simp; omega))).other (by simp) _).other (by simp) _).mono (by omega)
    · exact ((G3.out.setCell (by simp; omega) _).setCell (by simp) _).setCell (by simp) _
  by_cases h1 : r = 1
  · subst h1
    obtain ⟨g, rfl⟩ : ∃ g, a = some ⟨g, 0, none⟩ := by
      obtain ⟨g, _, hg, _⟩ := HQ2.out.row (by omega)
      exact ⟨g, hg⟩
    have hgq := hOQ g rfl
    have hdp : 0 < d := by omega
    have HO3 := Lib.hid (HO2.out.ext (ext_drew _))
    have HS2 := Lib.hid (G2.out.drew.src HS.out)
    have hqc := HQ2.out.cell (j := 0) (by omega)
    have HC := Lib.hid ((ext_drew w2).cell hqc)
    clear hqc
    go_wp2_with (fail)
    refine Chg.wp_region_lex_tail (E := Drw.rel S) 8 [(5, .lit S 2 [-1, p]), (6, .some_ S)] (by kernel_rfl) (by kernel_rfl) ?_
    simp only [List.take, List.drop]
    (refine Chg.LexW.pure (v := ?_) rfl rfl (fun w1 he => ?_) ?_; rotate_left; ( have he' : Drw S w2.drew _ := he; have x0 := he'.cell (p := ⟨O, 0, none⟩) hgO HO3.out.c0; have x1 := he'.cell (p := ⟨O, 1, none⟩) hgO HO3.out.c1; have x2 := he'.cell (p := ⟨g, 0, none⟩) (by show g ≠ S.g; omega) HC.out; go_simp; rfl); simp only [Act.put, List.setIfInBounds_toArray, List.set_cons_zero, List.set_cons_succ])
    (refine Chg.LexW.pure (v := ?_) rfl rfl (fun w1 he => ?_) ?_; rotate_left; ( have he' : Drw S w2.drew _ := he; have x0 := he'.cell (p := ⟨O, 0, none⟩) hgO HO3.out.c0; have x1 := he'.cell (p := ⟨O, 1, none⟩) hgO HO3.out.c1; have x2 := he'.cell (p := ⟨g, 0, none⟩) (by show g ≠ S.g; omega) HC.out; go_simp; rfl); simp only [Act.put, List.setIfInBounds_toArray, List.set_cons_zero, List.set_cons_succ])
    (refine Chg.LexW.pure (v := ?_) rfl rfl (fun w1 he => ?_) ?_; rotate_left; ( have he' : Drw S w2.drew _ := he; have x0 := he'.cell (p := ⟨O, 0, none⟩) hgO HO3.out.c0; have x1 := he'.cell (p := ⟨O, 1, none⟩) hgO HO3.out.c1; have x2 := he'.cell (p := ⟨g, 0, none⟩) (by show g ≠ S.g; omega) HC.out; go_simp; rfl); simp only [Act.put, List.setIfInBounds_toArray, List.set_cons_zero, List.set_cons_succ])
    (refine Chg.LexW.pure (v := ?_) rfl rfl (fun w1 he => ?_) ?_; rotate_left; ( have he' : Drw S w2.drew _ := he; have x0 := he'.cell (p := ⟨O, 0, none⟩) hgO HO3.out.c0; have x1 := he'.cell (p := ⟨O, 1, none⟩) hgO HO3.out.c1; have x2 := he'.cell (p := ⟨g, 0, none⟩) (by show g ≠ S.g; omega) HC.out; go_simp; rfl); simp only [Act.put, List.setIfInBounds_toArray, List.set_cons_zero, List.set_cons_succ])
    (refine Chg.LexW.pure (v := ?_) rfl rfl (fun w1 he => ?_) ?_; rotate_left; ( have he' : Drw S w2.drew _ := he; have x0 := he'.cell (p := ⟨O, 0, none⟩) hgO HO3.out.c0; have x1 := he'.cell (p := ⟨O, 1, none⟩) hgO HO3.out.c1; have x2 := he'.cell (p := ⟨g, 0, none⟩) (by show g ≠ S.g; omega) HC.out; go_simp; rfl); simp only [Act.put, List.setIfInBounds_toArray, List.set_cons_zero, List.set_cons_succ])
    (refine Chg.LexW.rel rfl rfl (fun w1 he hdep => ?_) (fun v hv => ?_); ( have he' : Drw S w2.drew _ := he; exact ⟨.slice (some ⟨w1.heap.size, 0, none⟩) 2 2, w1.alloc (.cells #[.int .i64 (-1), .int .i64 p] 2), (by go_simp), Drw.of_ext (ext_alloc _ _), _, rfl, rdC_lit w1 _ [-1, p], (by have := he'.size; have := HS2.out.lt; omega)⟩); simp only [Act.put, List.setIfInBounds_toArray, List.set_cons_zero, List.set_cons_succ])
    obtain ⟨_, b5, rfl, _⟩ := hv
    (refine Chg.LexW.callR (f := ?_) (args := ?_) rfl rfl (fun w1 => ?_) (fun w1 he hdep => ?_) (fun v hv => ?_); rotate_left 2; (go_simp; refine ⟨?_, ?_⟩ <;> rfl); ( have he' : Drw S w2.drew _ := he; obtain ⟨_, q5, r5, r5'⟩ : (Chg.SPred.lit S 2 [-1, p]).holds (.slice (some ⟨b5, 0, none⟩) 2 2) w1 := hdep (5, 21) (by decide +kernel); cases q5; refine Calls.mono (s_pick S b5 2 2 [-1, p] w1 (he'.src HS2.out) (by decide) (by decide) r5 r5') ?_; rintro e w3 ⟨q, rfl, _, x3⟩; exact ⟨_, rfl, x3, q, rfl⟩); simp only [Act.put, List.setIfInBounds_toArray, List.set_cons_zero, List.set_cons_succ])
    obtain ⟨_, q, rfl⟩ := hv
    (refine Chg.LexW.pure (v := ?_) rfl rfl (fun w1 he => ?_) ?_; rotate_left; ( have he' : Drw S w2.drew _ := he; have x0 := he'.cell (p := ⟨O, 0, none⟩) hgO HO3.out.c0; have x1 := he'.cell (p := ⟨O, 1, none⟩) hgO HO3.out.c1; have x2 := he'.cell (p := ⟨g, 0, none⟩) (by show g ≠ S.g; omega) HC.out; go_simp; rfl); simp only [Act.put, List.setIfInBounds_toArray, List.set_cons_zero, List.set_cons_succ])
    refine Chg.LexW.nil (fun w3 he hkn => ?_)
    have he' : Drw S w2.drew w3 := he
    have HR3 := Lib.hid ((HR2.out.ext (ext_drew _)).drw he' hgR)
    have HO4 := Lib.hid (HO3.out.drw he' hgO)
    have HQ3 := Lib.hid (he'.own (HQ2.out.ext (ext_drew _)) (by omega))
    have G3 := Lib.hid (G2.out.drew.trans he')
    have hq0 := HQ3.out.cell (j := 0) (by omega)
    have hqf := HQ3.out.frozen 0
    have o0 := HO4.out.c0
    have o1 := HO4.out.c1
    have of0 := HO4.out.f0
    have of1 := HO4.out.f1
    have r0 := HR3.out.c0
    have r1 := HR3.out.c1
    have f0 := HR3.out.f0
    have f1 := HR3.out.f1
    clear he he' hkn
    go_wp2_with (fail)
    refine bodyPost_ret (v := .agg #[.int .i64 p, .slice (some ⟨g, 0, none⟩) d cap]) (by simp [results, Try.results38, go_sem, r0, r1]) rfl ⟨p, some ⟨g, 0, none⟩, d, cap, qs.set 0 q, rfl, by omega, by omega, by omega, ?_, ?_⟩
    · exact (((HQ3.out.store (j := 0) (by omega) q).other (by simp) _).other (by simp) _).mono (by omega)
    · exact ((G3.out.setCell (by simp; omega) _).setCell (by simp) _).setCell (by simp) _
  by_cases h2 : r = 2
  · subst h2
    have lO := HO2.out.lt
    have lR := HR2.out.lt
    have o0 := HO2.out.c0
    have o1 := HO2.out.c1
    have of0 := HO2.out.f0
    have of1 := HO2.out.f1
    have r0 := HR2.out.c0
    have r1 := HR2.out.c1
    have f0 := HR2.out.f0
    have f1 := HR2.out.f1
    go_wp2_with (fail)
    have HF := (((HR2.out.other (q := ⟨O, 1, none⟩) (by simp; omega) (.slice (some ⟨w2.heap.size, 0, none⟩) 0 0)).set0 p).set1 (.slice (some ⟨w2.heap.size, 0, none⟩) 0 0)).ext (ext_alloc _ (.cells #[] 2))
    have r0' := HF.c0
    have r1' := HF.c1
    refine bodyPost_ret (v := .agg #[.int .i64 p, .slice (some ⟨w2.heap.size, 0, none⟩) 0 0]) (by simp [results, Try.results38, go_sem, r0', r1']) rfl ⟨p, _, 0, 0, [], rfl, by omega, by omega, by omega, ?_, ?_⟩
    · have h := own_empty (((w2.setCell ⟨O, 1, none⟩ (.slice (some ⟨w2.heap.size, 0, none⟩) 0 0)).setCell ⟨w.heap.size, 0, none⟩ (.int .i64 p)).setCell ⟨w.heap.size, 1, none⟩ (.slice (some ⟨w2.heap.size, 0, none⟩) 0 0))
      simp only [World.size_setCell] at h
      exact h.mono (by omega)
    · exact (((G2.out.setCell (by simp; omega) _).setCell (by simp) _).setCell (by simp) _).alloc _
  by_cases h3 : r = 3
  · subst h3
    have HW2 := Lib.hid HW
    go_wp2_with (fail)
    go_loopw [] (fun wr => ∃ (a' : Option Addr) (k cap' : Nat) (xs : List Int), k ≤ 7 ∧ 1 ≤ k ∧ Hid (SpAt wr w.heap.size 0 (.slice none 0 0)) ∧ Hid (SpAt wr O p (.slice a' k cap')) ∧ Hid (∀ g, a' = some ⟨g, 0, none⟩ → g ≠ O) ∧ Hid (OwnC (w.heap.size + 1) wr a' k cap' xs) ∧ Hid (Drw S w wr)) (fun wr => 7 - lenAt wr O)
    case atStart => exact ⟨a, d, cap, qs, by omega, hd1, HR2, HO2, Lib.hid (fun g hg => by have := hOQ g hg; omega), HQ2, G2⟩
    case round =>
      obtain ⟨a', k, cap', xs, hk, hk1, HR, HO, HN, HQ, HD⟩ := hrel
      clear HR2 HO2 HQ2 G2
      have o0 := HO.out.c0
      have o1 := HO.out.c1
      have of0 := HO.out.f0
      have of1 := HO.out.f1
      have hla := lenAt_of HO.out
      have hlO := HO.out.lt
      by_cases hlt7 : k < 7
      · go_wp2_with (at_builtin; refine wpList_push rfl (.tmp 35) (.tmp 36) rfl rfl rfl (v := 1) (HQ.out.ext (ext_alloc _ _)) ?hc ?hn ?hB ?hk)
        case hc => simp
        case hn => omega
        case hB => have := HR.out.lt; simp; omega
        case hk =>
          intro g' cap2 w6 ho6 hg6 he6
          have hb6 : w6.heap[O]? = wr.heap[O]? := by
            have h1 := hg6.block O (by simp; omega) (fun e => by
              rcases HQ.out.2.2 with ⟨h3, _⟩ | ⟨g, c, cur, hv, _⟩
              · rw [h3] at e; simp [Value.ownBlock] at e
              · simp only [Value.slice.injEq] at hv
                rw [hv.1] at e
                simp only [Value.ownBlock, Option.some.injEq] at e
                exact HN.out g hv.1 e.symm)
            rw [h1]; exact Below.heap_alloc _ _ _ hlO
          have hbl : Below (w.heap.size + 1) wr w6 := (Below.refl _ _).trans (((Below.refl (w.heap.size + 1) _).alloc (by omega) _).grown hg6 (by simp; omega) (fun k hk => HQ.out.blk k hk))
          have HO7 := Lib.hid (HO.out.block hb6)
          have HR7 := Lib.hid (HR.out.below hbl (by omega))
          have HD7 := Lib.hid (HD.out.below (hbl.mono (by omega)))
          have HQ7 := Lib.hid ho6
          have HN7 := Lib.hid (show ∀ g, (some ⟨g', 0, none⟩ : Option Addr) = some ⟨g, 0, none⟩ → g ≠ O from fun g hg h => by
            simp only [Option.some.injEq, Addr.mk.injEq, and_self, and_true] at hg
            have h1 := HQ7.out.cell (j := 1) (by omega)
            have h2 := HO7.out.c1
            rw [hg, h, h2] at h1
            cases h1)
          have c1' := HO7.out.c1
          have f1' := HO7.out.f1
          clear hbl ho6 hg6 he6 o0 o1 of0 of1 hb6
          go_wp2_with (fail)
          go_roundw
          case rel => exact ⟨_, k + 1, cap2, _, by omega, by omega, Lib.hid (HR7.out.other (by simp; omega) _), Lib.hid (HO7.out.set1 _), HN7, Lib.hid (HQ7.out.keep (fun g hg => Below.heap_setCell _ _ _ _ (HN7.out g hg))), Lib.hid (HD7.out.setCell (by simp; omega) _)⟩
          case measure =>
            rw [hla, lenAt_of (HO7.out.set1 _)]
            omega
      · have r0 := HR.out.c0
        have r1 := HR.out.c1
        have f0 := HR.out.f0
        have f1 := HR.out.f1
        go_wp2_with (fail)
        refine bodyPost_ret (v := .agg #[.int .i64 p, .slice a' k cap']) (by simp [results, Try.results38, go_sem, r0, r1]) rfl ⟨p, a', k, cap', xs, rfl, by omega, by omega, by omega, ?_, ?_⟩
        · exact ((HQ.out.other (by simp) _).other (by simp) _).mono (by omega)
        · exact (HD.out.setCell (by simp) _).setCell (by simp) _
  · have b0 : (r == 0) = false := by simp [h0]
    have b1 : (r == 1) = false := by simp [h1]
    have b2 : (r == 2) = false := by simp [h2]
    have b3 : (r == 3) = false := by simp [h3]
    have o0 := HO2.out.c0
    have o1 := HO2.out.c1
    have of0 := HO2.out.f0
    have of1 := HO2.out.f1
    have r0 := HR2.out.c0
    have r1 := HR2.out.c1
    have f0 := HR2.out.f0
    have f1 := HR2.out.f1
    go_wp2_with (fail)
    refine bodyPost_ret (v := .agg #[.int .i64 p, .slice a d cap]) (by simp [results, Try.results38, go_sem, r0, r1]) rfl ⟨p, a, d, cap, qs, rfl, by omega, by omega, by omega, ?_, ?_⟩
    · exact ((HQ2.out.other (by simp) _).other (by simp) _).mono (by omega)
    · exact (G2.out.setCell (by simp) _).setCell (by simp) _
end Go.Proofs.Ytnbhlabcecdbgaa

/-
  Listed functions of multivectors at good arguments.
  No condition.
-/
namespace Go.Proofs.Ytnbhlabcecdbgaa
set_option maxRecDepth 100000
open Go.RowKit

theorem OwnC.addr {B : Nat} {w : World} {a : Option Addr} {n cap : Nat} {xs : List Int} (h : OwnC B w a n cap xs) (hn : 0 < n) : ∃ g, a = some ⟨g, 0, none⟩ := by
  obtain ⟨g, _, hg, _⟩ := h.row hn
  exact ⟨g, hg⟩

end Go.Proofs.Ytnbhlabcecdbgaa

/-
  Draws of vectors.
  No condition.
-/
namespace Go.Proofs.Ytnbhlabcecdbgaa
set_option maxRecDepth 100000
open Go.RowKit

set_option maxHeartbeats 4000000 in
theorem s_vec (S : SrcP) (p : Int) (n : Nat) (w : World) (hS : Src S w) (hp : p ≤ 1000000) (hn : n ≤ 100) :
    Calls Try.prog 96 #[.pointer (some ⟨S.g, 0, none⟩), .int .i64 p, .int .i64 n] w fun e w' => ∃ a cap m xs, e = .returned (.slice a m cap) ∧ m ≤ n + 1 ∧ OwnC w.heap.size w' a m cap xs ∧ Drw S w w' := by
  have HS := Lib.hid hS
  have hlt := hS.lt
  clear hS
  by_cases hp1 : p < 1
  · skip
    go_enter Try.func96, Try.ntmps96
    go_wp2_with (fail)
    refine Calls.mono (s_dlist S 3 n w HS.out (by omega) (by omega)) ?_
    rintro e w1 ⟨a, cap, xs, rfl, ho, _, g1⟩
    have HO := Lib.hid ho
    have G1 := Lib.hid g1
    clear ho g1
    go_wp2_with (fail)
    refine Calls.mono (s_next S 24 w1 (G1.out.src HS.out) (by decide)) ?_
    rintro e w2 ⟨r, rfl, hr, g2⟩
    have HO2 := Lib.hid (g2.own HO.out hlt)
    have G2 := Lib.hid (G1.out.trans g2)
    clear g2 HO G1 hr
    by_cases h0 : r = 0
    · subst h0
      go_wp2_with (at_builtin; refine wpList_push rfl (.tmp 18) (.tmp 19) rfl rfl rfl (v := 0) (HO2.out.ext (ext_alloc _ _)) ?hc ?hn ?hB ?hk)
      case hc => simp
      case hn => omega
      case hB => have := G2.out.size; simp; omega
      case hk =>
        intro g' cap2 w6 ho6 hg6 he6
        have HO3 := Lib.hid ho6
        have G3 := Lib.hid ((G2.out.alloc _).grown hg6 (fun k hk => HO2.out.blk k hk))
        clear ho6 hg6 he6
        go_wp2_with (fail)
        go_ret
        exact ⟨_, _, n + 1, _, rfl, Nat.le_refl _, HO3.out, G3.out⟩
    by_cases h1 : r = 1
    · subst h1
      by_cases hn0 : 0 < n
      · obtain ⟨g, _, rfl, _⟩ := HO2.out.row hn0
        have hgb := HO2.out.base_le
        go_wp2_with (fail)
        refine Calls.mono (s_pick S w2.heap.size 2 2 [-1, 3] _ ((G2.out.alloc _).src HS.out) (by decide) (by decide) (rdC_lit w2 _ [-1, 3]) (by have := G2.out.size; omega)) ?_
        rintro e w3 ⟨q, rfl, _, g3⟩
        have HO3 := Lib.hid (g3.own (HO2.out.ext (ext_alloc _ _)) hlt)
        have G3 := Lib.hid ((G2.out.alloc _).trans g3)
        have hc0 := HO3.out.cell hn0
        have hf0 := HO3.out.frozen 0
        clear g3 HO2 G2
        go_wp2_with (fail)
        go_ret
        exact ⟨_, _, n, _, rfl, by omega, HO3.out.store hn0 q, G3.out.setCell hgb.1 _⟩
      · go_wp2_with (fail)
        go_ret
        exact ⟨_, _, n, _, rfl, by omega, HO2.out, G2.out⟩
    · have b0 : (r == 0) = false := by simp [h0]
      have b1 : (r == 1) = false := by simp [h1]
      go_wp2_with (fail)
      go_ret
      exact ⟨_, _, n, _, rfl, by omega, HO2.out, G2.out⟩
  · skip
    go_enter Try.func96, Try.ntmps96
    go_wp2_with (fail)
    refine Calls.mono (s_dlist S p n w HS.out (by omega) (by omega)) ?_
    rintro e w1 ⟨a, cap, xs, rfl, ho, _, g1⟩
    have HO := Lib.hid ho
    have G1 := Lib.hid g1
    clear ho g1
    go_wp2_with (fail)
    refine Calls.mono (s_next S 24 w1 (G1.out.src HS.out) (by decide)) ?_
    rintro e w2 ⟨r, rfl, hr, g2⟩
    have HO2 := Lib.hid (g2.own HO.out hlt)
    have G2 := Lib.hid (G1.out.trans g2)
    clear g2 HO G1 hr
    by_cases h0 : r = 0
    · subst h0
      go_wp2_with (at_builtin; refine wpList_push rfl (.tmp 18) (.tmp 19) rfl rfl rfl (v := 0) (HO2.out.ext (ext_alloc _ _)) ?hc ?hn ?hB ?hk)
      case hc => simp
      case hn => omega
      case hB => have := G2.out.size; simp; omega
      case hk =>
        intro g' cap2 w6 ho6 hg6 he6
        have HO3 := Lib.hid ho6
        have G3 := Lib.hid ((G2.out.alloc _).grown hg6 (fun k hk => HO2.out.blk k hk))
        clear ho6 hg6 he6
        go_wp2_with (fail)
        go_ret
        exact ⟨_, _, n + 1, _, rfl, Nat.le_refl _, HO3.out, G3.out⟩
    by_cases h1 : r = 1
    · subst h1
      by_cases hn0 : 0 < n
      · obtain ⟨g, _, rfl, _⟩ := HO2.out.row hn0
        have hgb := HO2.out.base_le
        go_wp2_with (fail)
        refine Calls.mono (s_pick S w2.heap.size 2 2 [-1, p] _ ((G2.out.alloc _).src HS.out) (by decide) (by decide) (rdC_lit w2 _ [-1, p]) (by have := G2.out.size; omega)) ?_
        rintro e w3 ⟨q, rfl, _, g3⟩
        have HO3 := Lib.hid (g3.own (HO2.out.ext (ext_alloc _ _)) hlt)
        have G3 := Lib.hid ((G2.out.alloc _).trans g3)
        have hc0 := HO3.out.cell hn0
        have hf0 := HO3.out.frozen 0
        clear g3 HO2 G2
        go_wp2_with (fail)
        go_ret
        exact ⟨_, _, n, _, rfl, by omega, HO3.out.store hn0 q, G3.out.setCell hgb.1 _⟩
      · go_wp2_with (fail)
        go_ret
        exact ⟨_, _, n, _, rfl, by omega, HO2.out, G2.out⟩
    · have b0 : (r == 0) = false := by simp [h0]
      have b1 : (r == 1) = false := by simp [h1]
      go_wp2_with (fail)
      go_ret
      exact ⟨_, _, n, _, rfl, by omega, HO2.out, G2.out⟩
set_option maxHeartbeats 1000000 in
theorem s_drawVec (S : SrcP) (p : Int) (a : Option Addr) (d cap : Nat) (w : World) (hS : Src S w) (hp : p ≤ 1000000) (hd : d ≤ 100) :
    Calls Try.prog 79 #[.pointer (some ⟨S.g, 0, none⟩), .agg #[.int .i64 p, .slice a d cap]] w fun e w' => ∃ a cap m xs, e = .returned (.slice a m cap) ∧ m ≤ d + 1 ∧ OwnC w.heap.size w' a m cap xs ∧ Drw S w w' := by
  have HS := Lib.hid (Drw.of_ext (ext_alloc w (.cells #[.int .i64 p, .slice a d cap] 26)) |>.src hS)
  clear hS
  go_enter Try.func79, Try.ntmps79
  go_wp2_with (fail)
  refine Calls.mono (s_vec S p d _ HS.out hp hd) ?_
  rintro e w1 ⟨a1, cap1, m, xs, rfl, hm, ho, g1⟩
  go_wp2_with (fail)
  go_ret
  exact ⟨_, _, m, xs, rfl, hm, ho.mono (by simp), (Drw.of_ext (ext_alloc _ _)).trans g1⟩
end Go.Proofs.Ytnbhlabcecdbgaa

/-
  Draws of a space and two lists.
  No condition.
-/
namespace Go.Proofs.Ytnbhlabcecdbgaa
set_option maxRecDepth 100000
open Go.RowKit

/-- A row of the call's own, behind the source. -/
def Chg.SPred.own (S : SrcP) (B M : Nat) (hB : S.g < B) : Chg.SPred (Drw.rel S) :=
  ⟨fun v w => ∃ a m cap xs, v = .slice a m cap ∧ m ≤ M ∧ OwnC B w a m cap xs, fun _ _ _ ⟨a, m, cap, xs, h1, h2, h3⟩ he => ⟨a, m, cap, xs, h1, h2, Drw.own he h3 hB⟩⟩

end Go.Proofs.Ytnbhlabcecdbgaa

/-
  Draws of multivectors.
  No condition.
-/
namespace Go.Proofs.Ytnbhlabcecdbgaa
set_option maxRecDepth 100000
open Go.RowKit

set_option maxHeartbeats 1000000 in
theorem s_partW (a : Option Addr) (n cap : Nat) (xs : List Int) (k : Int) (w : World) (hn : n ≤ 64) (hx : RdC w a n xs) :
    Calls Try.prog 93 #[.slice a n cap, .int .i64 k] w fun e w' => ∃ g ys, e = .returned (.slice (some ⟨g, 0, none⟩) n n) ∧ OwnC w.heap.size w' (some ⟨g, 0, none⟩) n n ys ∧ Ext w w' := by
  obtain ⟨w0, hmk, hown0, hext0⟩ := make_ints w n (by omega)
  have HX := Lib.hid hx
  clear hx
  obtain ⟨g, hg⟩ : ∃ g, g = w.heap.size := ⟨_, rfl⟩
  rw [← hg] at hmk
  have HOwn0 := Lib.hid hown0
  have HExt0 := Lib.hid hext0
  clear hown0 hext0
  have hge : w.heap.size ≤ g := by omega
  have HG := Lib.hid hg
  clear hg
  go_enter Try.func93, Try.ntmps93
  go_wp2_with (fail)
  go_loopw [6] (fun i wr => ∃ (j : Nat) (ys : List Int), j ≤ n ∧ i = .int .i64 j ∧ Hid (OwnC w.heap.size wr (some ⟨g, 0, none⟩) n n ys) ∧ Hid (Ext w wr)) (fun i _ => n - (intOf i).toNat)
  case atStart => exact ⟨0, List.replicate n 0, Nat.zero_le _, rfl, Lib.hid (by have := HOwn0.out; rw [← HG.out] at this ⊢; exact this), HExt0⟩
  case round =>
    obtain ⟨j, ys, hj, rfl, HO, HE⟩ := hrel
    clear HExt0 HOwn0 hmk
    by_cases hlt : j < n
    · obtain ⟨b, off, rfl, hc⟩ := HX.out.2 j hlt
      go_wp2_with (fail)
      refine Calls.mono (s_grade j wr (by omega)) ?_
      rintro e w1 ⟨rfl, g1⟩
      have hc' := (HE.out.trans g1).cell hc
      have HO1 := Lib.hid (HO.out.ext g1)
      have HE1 := Lib.hid (HE.out.trans g1)
      have hcg := HO1.out.cell hlt
      have hfz := HO1.out.frozen j
      clear g1 hc HO HE
      by_cases hk : (popc j : Int) = k
      · have hkb : ((popc j : Int) == k) = true := by simp [hk]
        clear hk
        go_wp2_with (fail)
        go_roundw
        case rel => exact ⟨j + 1, _, by omega, by go_num, Lib.hid (HO1.out.store hlt _), Lib.hid (HE1.out.setCell hge _)⟩
        case measure => simp [intOf]; omega
      · have hkb : ((popc j : Int) == k) = false := by simp [hk]
        clear hk
        go_wp2_with (fail)
        go_roundw
        case rel => exact ⟨j + 1, _, by omega, by go_num, HO1, HE1⟩
        case measure => simp [intOf]; omega
    · go_wp2_with (fail)
      go_ret
      exact ⟨g, ys, rfl, HO.out, HE.out⟩

namespace Chg
/-- A row of the call's own, behind the source, of a length and with a property. -/
def SPred.ownP (S : SrcP) (B n : Nat) (P : List Int → Prop) (hB : S.g < B) : SPred (Drw.rel S) :=
  ⟨fun v w => ∃ g cap xs, v = .slice (some ⟨g, 0, none⟩) n cap ∧ P xs ∧ OwnC B w (some ⟨g, 0, none⟩) n cap xs, fun _ _ _ ⟨g, cap, xs, h1, h2, h3⟩ he => ⟨g, cap, xs, h1, h2, Drw.own he h3 hB⟩⟩
end Chg

theorem isB_Good {p : Int} {n : Nat} {xs : List Int} (h : xs.length = n) (hb : isB p xs = true) : Good p n xs := good_isB h hb

set_option maxHeartbeats 8000000 in
set_option maxRecDepth 100000 in
theorem s_draw4 {N : Nat} (S : SrcP) (B : Nat) (p : Int) (a : Option Addr) (d cap : Nat) (qs : List Int) (w : World) (hS : Src S w) (hB : S.g < B) (hN : N = 2 ^ d) (hs : spaceB p qs = true) (hq : OwnC B w a d cap qs) :
    Calls Try.prog 66 #[.pointer (some ⟨S.g, 0, none⟩), .agg #[.int .i64 p, .slice a d cap]] w fun e w' => ∃ g c xs, e = .returned (.slice (some ⟨g, 0, none⟩) N c) ∧ OwnC w.heap.size w' (some ⟨g, 0, none⟩) N c xs ∧ Drw S w w' := by
  have HS := Lib.hid hS
  have hlt := hS.lt
  obtain ⟨hpr, hd1, hd6, hqb⟩ := space_of hs
  have hpb := prime_bd hpr
  have hdl := hq.1
  rw [hdl] at hd1 hd6
  have HN := Lib.hid hN
  have hN6 : N ≤ 64 := by rw [hN]; exact pow_le64 hd6
  have hN1 : 0 < N := by rw [hN]; exact pow_pos' d
  have HD := Lib.hid hdl
  have HQB := Lib.hid hqb
  have HSP := Lib.hid hs
  obtain ⟨ga, hga⟩ : ∃ ga, a = some ⟨ga, 0, none⟩ := by
    obtain ⟨g, _, hg, _⟩ := hq.row hd1
    exact ⟨g, hg⟩
  subst hga
  obtain ⟨O, hO⟩ : ∃ O, O = w.heap.size := ⟨_, rfl⟩
  obtain ⟨W, hW⟩ : ∃ W, W = w.alloc (.cells #[.int .i64 p, .slice (some ⟨ga, 0, none⟩) d cap] 26) := ⟨_, rfl⟩
  have hgW : Ext w W := by rw [hW]; exact ext_alloc _ _
  have G := Lib.hid (Drw.of_ext (S := S) hgW)
  have HC := Lib.hid (show SpAt W O p (.slice (some ⟨ga, 0, none⟩) d cap) by rw [hW, hO]; exact ⟨by simp, by simp, by simp, by simp⟩)
  have HQ := Lib.hid (hq.ext hgW)
  have hgO : O ≠ S.g := by omega
  have hOw : w.heap.size ≤ O := by omega
  clear hS hN hdl hqb hq hgW hs
  go_enter Try.func66, Try.ntmps66
  have c0 := HC.out.c0
  have c1 := HC.out.c1
  go_wp2_with (fail)
  rw [← hO, ← hW]
  have HW := Lib.hid hW
  clear hO hW
  refine Calls.mono (s_zeroN HN.out p (some ⟨ga, 0, none⟩) cap W hd6) ?_
  rintro e v1 ⟨g0, rfl, ho, gg⟩
  replace gg := Drw.of_ext (S := S) gg
  have hg0 := ho.base_le.1
  have hOl := HC.out.lt
  have hgl := HQ.out.base_le.2
  have hOg : O ≠ g0 := by omega
  have hgg0 : ga ≠ g0 := by omega
  clear hg0 hOl hgl
  have R0 := Lib.hid (ho.mono (show w.heap.size ≤ _ from G.out.size))
  clear ho
  replace G := Lib.hid (G.out.trans gg)
  replace HC := Lib.hid (HC.out.drw gg hgO)
  replace HQ := Lib.hid (gg.own HQ.out hB)
  clear gg
  have c0 := HC.out.c0
  have c1 := HC.out.c1
  go_wp2_with (fail)
  clear c0 c1
  refine Calls.mono (s_next S 5 v1 (G.out.src HS.out) (by decide)) ?_
  rintro e v2 ⟨r, rfl, _, gg⟩
  replace G := Lib.hid (G.out.trans gg)
  replace HC := Lib.hid (HC.out.drw gg hgO)
  replace HQ := Lib.hid (gg.own HQ.out hB)
  replace R0 := Lib.hid (gg.own R0.out hlt)
  clear gg
  by_cases h0 : r = 0
  · subst h0
    have c0 := HC.out.c0
    have c1 := HC.out.c1
    go_wp2_with (fail)
    clear c0 c1
    have gg := Drw.of_ext (S := S) (ext_drew v2)
    replace G := Lib.hid (G.out.trans gg)
    replace HC := Lib.hid (HC.out.drw gg hgO)
    replace HQ := Lib.hid (gg.own HQ.out hB)
    replace R0 := Lib.hid (gg.own R0.out hlt)
    clear gg
    refine Chg.wp_region_lex (E := Drw.rel S) [(7, .ownP S w.heap.size d (Good p d) hlt), (8, .ownP S w.heap.size N (Good p N) hlt)] (by kernel_rfl) (by kernel_rfl) ?_
    (refine Chg.LexW.pure (v := ?_) rfl rfl (fun w1 he => ?_) ?_; rotate_left; ( have he' : Drw S _ _ := he; have x0 := he'.cell (p := ⟨O, 0, none⟩) hgO HC.out.c0; have x1 := he'.cell (p := ⟨O, 1, none⟩) hgO HC.out.c1; go_simp; rfl); simp only [Act.put, List.setIfInBounds_toArray, List.set_cons_zero, List.set_cons_succ])
    (refine Chg.LexW.pure (v := ?_) rfl rfl (fun w1 he => ?_) ?_; rotate_left; ( have he' : Drw S _ _ := he; have x0 := he'.cell (p := ⟨O, 0, none⟩) hgO HC.out.c0; have x1 := he'.cell (p := ⟨O, 1, none⟩) hgO HC.out.c1; go_simp; rfl); simp only [Act.put, List.setIfInBounds_toArray, List.set_cons_zero, List.set_cons_succ])
    (refine Chg.LexW.pure (v := ?_) rfl rfl (fun w1 he => ?_) ?_; rotate_left; ( have he' : Drw S _ _ := he; have x0 := he'.cell (p := ⟨O, 0, none⟩) hgO HC.out.c0; have x1 := he'.cell (p := ⟨O, 1, none⟩) hgO HC.out.c1; go_simp; rfl); simp only [Act.put, List.setIfInBounds_toArray, List.set_cons_zero, List.set_cons_succ])
    (refine Chg.LexW.pure (v := ?_) rfl rfl (fun w1 he => ?_) ?_; rotate_left; ( have he' : Drw S _ _ := he; have x0 := he'.cell (p := ⟨O, 0, none⟩) hgO HC.out.c0; have x1 := he'.cell (p := ⟨O, 1, none⟩) hgO HC.out.c1; go_simp; rfl); simp only [Act.put, List.setIfInBounds_toArray, List.set_cons_zero, List.set_cons_succ])
    (refine Chg.LexW.pure (v := ?_) rfl rfl (fun w1 he => ?_) ?_; rotate_left; ( have he' : Drw S _ _ := he; have x0 := he'.cell (p := ⟨O, 0, none⟩) hgO HC.out.c0; have x1 := he'.cell (p := ⟨O, 1, none⟩) hgO HC.out.c1; go_simp; rfl); simp only [Act.put, List.setIfInBounds_toArray, List.set_cons_zero, List.set_cons_succ])
    (refine Chg.LexW.pure (v := ?_) rfl rfl (fun w1 he => ?_) ?_; rotate_left; ( have he' : Drw S _ _ := he; have x0 := he'.cell (p := ⟨O, 0, none⟩) hgO HC.out.c0; have x1 := he'.cell (p := ⟨O, 1, none⟩) hgO HC.out.c1; go_simp; rfl); simp only [Act.put, List.setIfInBounds_toArray, List.set_cons_zero, List.set_cons_succ])
    (refine Chg.LexW.pure (v := ?_) rfl rfl (fun w1 he => ?_) ?_; rotate_left; ( have he' : Drw S _ _ := he; have x0 := he'.cell (p := ⟨O, 0, none⟩) hgO HC.out.c0; have x1 := he'.cell (p := ⟨O, 1, none⟩) hgO HC.out.c1; go_simp; rfl); simp only [Act.put, List.setIfInBounds_toArray, List.set_cons_zero, List.set_cons_succ])
    (refine Chg.LexW.callR (f := ?_) (args := ?_) rfl rfl (fun w1 => ?_) (fun w1 he hdep => ?_) (fun v hv => ?_); rotate_left 2; (go_simp; refine ⟨?_, ?_⟩ <;> rfl); ( have he' : Drw S _ _ := he; (refine Calls.mono (s_dlist S p d _ ((G.out.trans he').src HS.out) (by omega) (by omega)) ?_; rintro e w9 ⟨a9, c9, x9, rfl, ho9, hb9, g9⟩; obtain ⟨g8, _, rfl, _⟩ := ho9.row (by omega); exact ⟨_, rfl, g9, g8, c9, x9, rfl, isB_Good ho9.1 (hb9 (by omega)), ho9.mono (Nat.le_trans G.out.size he'.size)⟩)); simp only [Act.put, List.setIfInBounds_toArray, List.set_cons_zero, List.set_cons_succ])
    obtain ⟨_, g28, c28, x28, rfl, _⟩ := hv
    (refine Chg.LexW.callR (f := ?_) (args := ?_) rfl rfl (fun w1 => ?_) (fun w1 he hdep => ?_) (fun v hv => ?_); rotate_left 2; (go_simp; refine ⟨?_, ?_⟩ <;> rfl); ( have he' : Drw S _ _ := he; obtain ⟨_, _, y28, q28, p28, r28⟩ : (Chg.SPred.ownP S w.heap.size d (Good p d) hlt).holds (.slice (some ⟨g28, 0, none⟩) d c28) w1 := hdep (7, 28) (by decide +kernel); cases q28; (refine Calls.mono (s_vector HN.out p (some ⟨ga, 0, none⟩) cap _ _ y28 w1 hd6 r28.rd) ?_; rintro e w9 ⟨g9, rfl, ho9, x9⟩; exact ⟨_, rfl, Drw.of_ext x9, g9, _, _, rfl, vec_good (by omega) p28, ho9.mono (Nat.le_trans G.out.size he'.size)⟩)); simp only [Act.put, List.setIfInBounds_toArray, List.set_cons_zero, List.set_cons_succ])
    obtain ⟨_, g29, c29, x29, rfl, _⟩ := hv
    (refine Chg.LexW.pure (v := ?_) rfl rfl (fun w1 he => ?_) ?_; rotate_left; ( have he' : Drw S _ _ := he; have x0 := he'.cell (p := ⟨O, 0, none⟩) hgO HC.out.c0; have x1 := he'.cell (p := ⟨O, 1, none⟩) hgO HC.out.c1; go_simp; rfl); simp only [Act.put, List.setIfInBounds_toArray, List.set_cons_zero, List.set_cons_succ])
    refine Chg.LexW.nil (fun v3 he hkn => ?_)
    have gg : Drw S v2.drew v3 := he
    obtain ⟨_, _, y29, q29, p29, r29⟩ : (Chg.SPred.ownP S w.heap.size N (Good p N) hlt).holds (.slice (some ⟨g29, 0, none⟩) N c29) _ := hkn (8, _) (by simp)
    cases q29
    have R9 := Lib.hid r29
    replace G := Lib.hid (G.out.trans gg)
    replace HC := Lib.hid (HC.out.drw gg hgO)
    replace HQ := Lib.hid (gg.own HQ.out hB)
    replace R0 := Lib.hid (gg.own R0.out hlt)
    clear gg he hkn
    go_wp2_with (fail)
    go_ret
    first | exact ⟨_, _, _, rfl, R9.out, G.out⟩ | exact ⟨_, _, rfl, ⟨_, R9.out⟩, G.out⟩
  by_cases h1 : r = 1
  · subst h1
    have c0 := HC.out.c0
    have c1 := HC.out.c1
    go_wp2_with (fail)
    clear c0 c1
    refine Calls.mono (s_oneN HN.out p (some ⟨ga, 0, none⟩) cap v2 hd6) ?_
    rintro e v3 ⟨g1, rfl, ho, gg⟩
    replace gg := Drw.of_ext (S := S) gg
    have R1 := Lib.hid (ho.mono (show w.heap.size ≤ _ from G.out.size))
    clear ho
    replace G := Lib.hid (G.out.trans gg)
    replace HC := Lib.hid (HC.out.drw gg hgO)
    replace HQ := Lib.hid (gg.own HQ.out hB)
    replace R0 := Lib.hid (gg.own R0.out hlt)
    clear gg
    have c0 := HC.out.c0
    have c1 := HC.out.c1
    go_wp2_with (fail)
    clear c0 c1
    refine Calls.mono (s_next S 4 v3 (G.out.src HS.out) (by decide)) ?_
    rintro e v4 ⟨k, rfl, hk, gg⟩
    replace G := Lib.hid (G.out.trans gg)
    replace HC := Lib.hid (HC.out.drw gg hgO)
    replace HQ := Lib.hid (gg.own HQ.out hB)
    replace R0 := Lib.hid (gg.own R0.out hlt)
    replace R1 := Lib.hid (gg.own R1.out hlt)
    clear gg
    obtain ⟨m, rfl⟩ : ∃ m : Nat, k = (m : Int) := ⟨k.toNat, by have := hk.2 (by decide); omega⟩
    have hm4 : m < 4 := by have := hk.2 (by decide); omega
    clear hk
    have c0 := HC.out.c0
    have c1 := HC.out.c1
    go_wp2_with (fail)
    clear c0 c1
    go_loopw [5, 6] (fun o i wr => ∃ (g c j : Nat) (xs : List Int), j ≤ m ∧ i = .int .i64 ((m - j : Nat) : Int) ∧ o = .slice (some ⟨g, 0, none⟩) N c ∧ Hid (Good p N xs) ∧ Hid (OwnC w.heap.size wr (some ⟨g, 0, none⟩) N c xs) ∧ Hid (SpAt wr O p (.slice (some ⟨ga, 0, none⟩) d cap)) ∧ Hid (OwnC B wr (some ⟨ga, 0, none⟩) d cap qs) ∧ Hid (Drw S w wr)) (fun _ i _ => (intOf i).toNat)
    case atStart => exact ⟨g1, _, 0, _, Nat.zero_le _, by simp, rfl, Lib.hid (blade_good (by omega)), R1, HC, HQ, G⟩
    case round =>
      clear R0 R1 HC HQ G
      obtain ⟨g, c, j, xs, hj, rfl, rfl, HG, R1, HC, HQ, G⟩ := hrel
      by_cases hjm : j < m
      · obtain ⟨t, ht⟩ : ∃ t : Nat, m - j = t + 1 := ⟨m - j - 1, by omega⟩
        rw [ht]
        have c0 := HC.out.c0
        have c1 := HC.out.c1
        go_wp2_with (fail)
        clear c0 c1
        have gg := Drw.of_ext (S := S) (ext_drew wr)
        replace G := Lib.hid (G.out.trans gg)
        replace HC := Lib.hid (HC.out.drw gg hgO)
        replace HQ := Lib.hid (gg.own HQ.out hB)
        replace R1 := Lib.hid (gg.own R1.out hlt)
        clear gg
        refine Chg.wp_region_lex (E := Drw.rel S) [(9, .ownP S w.heap.size d (Good p d) hlt), (10, .ownP S w.heap.size N (Good p N) hlt), (11, .ownP S w.heap.size N (Good p N) hlt)] (by kernel_rfl) (by kernel_rfl) ?_
        (refine Chg.LexW.pure (v := ?_) rfl rfl (fun w1 he => ?_) ?_; rotate_left; ( have he' : Drw S _ _ := he; have x0 := he'.cell (p := ⟨O, 0, none⟩) hgO HC.out.c0; have x1 := he'.cell (p := ⟨O, 1, none⟩) hgO HC.out.c1; go_simp; rfl); simp only [Act.put, List.setIfInBounds_toArray, List.set_cons_zero, List.set_cons_succ])
        (refine Chg.LexW.pure (v := ?_) rfl rfl (fun w1 he => ?_) ?_; rotate_left; ( have he' : Drw S _ _ := he; have x0 := he'.cell (p := ⟨O, 0, none⟩) hgO HC.out.c0; have x1 := he'.cell (p := ⟨O, 1, none⟩) hgO HC.out.c1; go_simp; rfl); simp only [Act.put, List.setIfInBounds_toArray, List.set_cons_zero, List.set_cons_succ])
        (refine Chg.LexW.pure (v := ?_) rfl rfl (fun w1 he => ?_) ?_; rotate_left; ( have he' : Drw S _ _ := he; have x0 := he'.cell (p := ⟨O, 0, none⟩) hgO HC.out.c0; have x1 := he'.cell (p := ⟨O, 1, none⟩) hgO HC.out.c1; go_simp; rfl); simp only [Act.put, List.setIfInBounds_toArray, List.set_cons_zero, List.set_cons_succ])
        (refine Chg.LexW.pure (v := ?_) rfl rfl (fun w1 he => ?_) ?_; rotate_left; ( have he' : Drw S _ _ := he; have x0 := he'.cell (p := ⟨O, 0, none⟩) hgO HC.out.c0; have x1 := he'.cell (p := ⟨O, 1, none⟩) hgO HC.out.c1; go_simp; rfl); simp only [Act.put, List.setIfInBounds_toArray, List.set_cons_zero, List.set_cons_succ])
        (refine Chg.LexW.pure (v := ?_) rfl rfl (fun w1 he => ?_) ?_; rotate_left; ( have he' : Drw S _ _ := he; have x0 := he'.cell (p := ⟨O, 0, none⟩) hgO HC.out.c0; have x1 := he'.cell (p := ⟨O, 1, none⟩) hgO HC.out.c1; go_simp; rfl); simp only [Act.put, List.setIfInBounds_toArray, List.set_cons_zero, List.set_cons_succ])
        (refine Chg.LexW.pure (v := ?_) rfl rfl (fun w1 he => ?_) ?_; rotate_left; ( have he' : Drw S _ _ := he; have x0 := he'.cell (p := ⟨O, 0, none⟩) hgO HC.out.c0; have x1 := he'.cell (p := ⟨O, 1, none⟩) hgO HC.out.c1; go_simp; rfl); simp only [Act.put, List.setIfInBounds_toArray, List.set_cons_zero, List.set_cons_succ])
        (refine Chg.LexW.pure (v := ?_) rfl rfl (fun w1 he => ?_) ?_; rotate_left; ( have he' : Drw S _ _ := he; have x0 := he'.cell (p := ⟨O, 0, none⟩) hgO HC.out.c0; have x1 := he'.cell (p := ⟨O, 1, none⟩) hgO HC.out.c1; go_simp; rfl); simp only [Act.put, List.setIfInBounds_toArray, List.set_cons_zero, List.set_cons_succ])
        (refine Chg.LexW.pure (v := ?_) rfl rfl (fun w1 he => ?_) ?_; rotate_left; ( have he' : Drw S _ _ := he; have x0 := he'.cell (p := ⟨O, 0, none⟩) hgO HC.out.c0; have x1 := he'.cell (p := ⟨O, 1, none⟩) hgO HC.out.c1; go_simp; rfl); simp only [Act.put, List.setIfInBounds_toArray, List.set_cons_zero, List.set_cons_succ])
        (refine Chg.LexW.pure (v := ?_) rfl rfl (fun w1 he => ?_) ?_; rotate_left; ( have he' : Drw S _ _ := he; have x0 := he'.cell (p := ⟨O, 0, none⟩) hgO HC.out.c0; have x1 := he'.cell (p := ⟨O, 1, none⟩) hgO HC.out.c1; go_simp; rfl); simp only [Act.put, List.setIfInBounds_toArray, List.set_cons_zero, List.set_cons_succ])
        (refine Chg.LexW.callR (f := ?_) (args := ?_) rfl rfl (fun w1 => ?_) (fun w1 he hdep => ?_) (fun v hv => ?_); rotate_left 2; (go_simp; refine ⟨?_, ?_⟩ <;> rfl); ( have he' : Drw S _ _ := he; (refine Calls.mono (s_dlist S p d _ ((G.out.trans he').src HS.out) (by omega) (by omega)) ?_; rintro e w9 ⟨a9, c9, x9, rfl, ho9, hb9, g9⟩; obtain ⟨g8, _, rfl, _⟩ := ho9.row (by omega); exact ⟨_, rfl, g9, g8, c9, x9, rfl, isB_Good ho9.1 (hb9 (by omega)), ho9.mono (Nat.le_trans G.out.size he'.size)⟩)); simp only [Act.put, List.setIfInBounds_toArray, List.set_cons_zero, List.set_cons_succ])
        obtain ⟨_, g49, c49, x49, rfl, _⟩ := hv
        (refine Chg.LexW.callR (f := ?_) (args := ?_) rfl rfl (fun w1 => ?_) (fun w1 he hdep => ?_) (fun v hv => ?_); rotate_left 2; (go_simp; refine ⟨?_, ?_⟩ <;> rfl); ( have he' : Drw S _ _ := he; obtain ⟨_, _, y49, q49, p49, r49⟩ : (Chg.SPred.ownP S w.heap.size d (Good p d) hlt).holds (.slice (some ⟨g49, 0, none⟩) d c49) w1 := hdep (9, 49) (by decide +kernel); cases q49; (refine Calls.mono (s_vector HN.out p (some ⟨ga, 0, none⟩) cap _ _ y49 w1 hd6 r49.rd) ?_; rintro e w9 ⟨g9, rfl, ho9, x9⟩; exact ⟨_, rfl, Drw.of_ext x9, g9, _, _, rfl, vec_good (by omega) p49, ho9.mono (Nat.le_trans G.out.size he'.size)⟩)); simp only [Act.put, List.setIfInBounds_toArray, List.set_cons_zero, List.set_cons_succ])
        obtain ⟨_, g50, c50, x50, rfl, _⟩ := hv
        (refine Chg.LexW.callR (f := ?_) (args := ?_) rfl rfl (fun w1 => ?_) (fun w1 he hdep => ?_) (fun v hv => ?_); rotate_left 2; (go_simp; refine ⟨?_, ?_⟩ <;> rfl); ( have he' : Drw S _ _ := he; obtain ⟨_, _, y50, q50, p50, r50⟩ : (Chg.SPred.ownP S w.heap.size N (Good p N) hlt).holds (.slice (some ⟨g50, 0, none⟩) N c50) w1 := hdep (10, 50) (by decide +kernel); cases q50; (refine Calls.mono (s_timesN HN.out p (some ⟨ga, 0, none⟩) cap qs _ _ _ _ xs y50 w1 hd6 (by omega) (by omega) (he'.own HQ.out hB).rd HQB.out (he'.own R1.out hlt).rd r50.rd (good_bits HG.out) (good_bits p50)) ?_; rintro e w9 ⟨g9, rfl, ho9, x9⟩; exact ⟨_, rfl, Drw.of_ext x9, g9, _, _, rfl, by rw [HN.out, ← HD.out]; exact prod_good (by omega), ho9.mono (Nat.le_trans G.out.size he'.size)⟩)); simp only [Act.put, List.setIfInBounds_toArray, List.set_cons_zero, List.set_cons_succ])
        obtain ⟨_, g51, c51, x51, rfl, _⟩ := hv
        (refine Chg.LexW.pure (v := ?_) rfl rfl (fun w1 he => ?_) ?_; rotate_left; ( have he' : Drw S _ _ := he; have x0 := he'.cell (p := ⟨O, 0, none⟩) hgO HC.out.c0; have x1 := he'.cell (p := ⟨O, 1, none⟩) hgO HC.out.c1; go_simp; rfl); simp only [Act.put, List.setIfInBounds_toArray, List.set_cons_zero, List.set_cons_succ])
        refine Chg.LexW.nil (fun v5 he hkn => ?_)
        have gg : Drw S wr.drew v5 := he
        obtain ⟨_, _, y51, q51, p51, r51⟩ : (Chg.SPred.ownP S w.heap.size N (Good p N) hlt).holds (.slice (some ⟨g51, 0, none⟩) N c51) _ := hkn (11, _) (by simp)
        cases q51
        have R9 := Lib.hid r51
        have P9 := Lib.hid p51
        replace G := Lib.hid (G.out.trans gg)
        replace HC := Lib.hid (HC.out.drw gg hgO)
        replace HQ := Lib.hid (gg.own HQ.out hB)
        replace R1 := Lib.hid (gg.own R1.out hlt)
        clear gg he hkn
        go_wp2_with (fail)
        go_roundw
        case rel => exact ⟨_, _, j + 1, _, by omega, by go_num, rfl, P9, R9, HC, HQ, G⟩
        case measure => simp [intOf]
      · have hz : m - j = 0 := by omega
        rw [hz]
        go_wp2_with (fail)
        go_ret
        exact ⟨_, _, _, rfl, R1.out, G.out⟩
  by_cases h2 : r = 2
  · subst h2
    have c0 := HC.out.c0
    have c1 := HC.out.c1
    go_wp2_with (fail)
    clear c0 c1
    have hwd : wrap64 ((d : Int) + 1) = (d : Int) + 1 := by unfold wrap64; omega
    refine Calls.mono (s_next S ((d : Int) + 1) v2 (G.out.src HS.out) (by omega)) ?_
    rintro e v3 ⟨k, rfl, hk, gg⟩
    replace G := Lib.hid (G.out.trans gg)
    replace HC := Lib.hid (HC.out.drw gg hgO)
    replace HQ := Lib.hid (gg.own HQ.out hB)
    replace R0 := Lib.hid (gg.own R0.out hlt)
    clear gg
    have c0 := HC.out.c0
    have c1 := HC.out.c1
    go_wp2_with (fail)
    clear c0 c1
    have gg := Drw.of_ext (S := S) (ext_drew v3)
    replace G := Lib.hid (G.out.trans gg)
    replace HC := Lib.hid (HC.out.drw gg hgO)
    replace HQ := Lib.hid (gg.own HQ.out hB)
    replace R0 := Lib.hid (gg.own R0.out hlt)
    clear gg
    refine Chg.wp_region_lex (E := Drw.rel S) [(4, .val (.int .i64 N)), (5, .ownP S w.heap.size N (Good p N) hlt), (7, .ownP S w.heap.size N (fun _ => True) hlt)] (by kernel_rfl) (by kernel_rfl) ?_
    (refine Chg.LexW.pure (v := ?_) rfl rfl (fun w1 he => ?_) ?_; rotate_left; ( have he' : Drw S _ _ := he; have x0 := he'.cell (p := ⟨O, 0, none⟩) hgO HC.out.c0; have x1 := he'.cell (p := ⟨O, 1, none⟩) hgO HC.out.c1; go_simp; rfl); simp only [Act.put, List.setIfInBounds_toArray, List.set_cons_zero, List.set_cons_succ])
    (refine Chg.LexW.pure (v := ?_) rfl rfl (fun w1 he => ?_) ?_; rotate_left; ( have he' : Drw S _ _ := he; have x0 := he'.cell (p := ⟨O, 0, none⟩) hgO HC.out.c0; have x1 := he'.cell (p := ⟨O, 1, none⟩) hgO HC.out.c1; go_simp; rfl); simp only [Act.put, List.setIfInBounds_toArray, List.set_cons_zero, List.set_cons_succ])
    (refine Chg.LexW.pure (v := ?_) rfl rfl (fun w1 he => ?_) ?_; rotate_left; ( have he' : Drw S _ _ := he; have x0 := he'.cell (p := ⟨O, 0, none⟩) hgO HC.out.c0; have x1 := he'.cell (p := ⟨O, 1, none⟩) hgO HC.out.c1; go_simp; rfl); simp only [Act.put, List.setIfInBounds_toArray, List.set_cons_zero, List.set_cons_succ])
    (refine Chg.LexW.pure (v := ?_) rfl rfl (fun w1 he => ?_) ?_; rotate_left; ( have he' : Drw S _ _ := he; have x0 := he'.cell (p := ⟨O, 0, none⟩) hgO HC.out.c0; have x1 := he'.cell (p := ⟨O, 1, none⟩) hgO HC.out.c1; go_simp; rfl); simp only [Act.put, List.setIfInBounds_toArray, List.set_cons_zero, List.set_cons_succ])
    (refine Chg.LexW.call (f := ?_) (args := ?_) rfl rfl (fun w1 => ?_) (fun w1 he hdep => ?_) ?_; rotate_left 2; (go_simp; refine ⟨?_, ?_⟩ <;> rfl); ( have he' : Drw S _ _ := he; have H := s_size p (some ⟨ga, 0, none⟩) d cap w1 hd6; rw [← HN.out] at H; exact H.mono fun e w' h => ⟨h.1, Drw.of_ext h.2⟩); simp only [Act.put, List.setIfInBounds_toArray, List.set_cons_zero, List.set_cons_succ])
    (refine Chg.LexW.callR (f := ?_) (args := ?_) rfl rfl (fun w1 => ?_) (fun w1 he hdep => ?_) (fun v hv => ?_); rotate_left 2; (go_simp; refine ⟨?_, ?_⟩ <;> rfl); ( have he' : Drw S _ _ := he; (refine Calls.mono (s_dlist S p N _ ((G.out.trans he').src HS.out) (by omega) (by omega)) ?_; rintro e w9 ⟨a9, c9, x9, rfl, ho9, hb9, g9⟩; obtain ⟨g8, _, rfl, _⟩ := ho9.row (by omega); exact ⟨_, rfl, g9, g8, c9, x9, rfl, isB_Good ho9.1 (hb9 (by omega)), ho9.mono (Nat.le_trans G.out.size he'.size)⟩)); simp only [Act.put, List.setIfInBounds_toArray, List.set_cons_zero, List.set_cons_succ])
    obtain ⟨_, g65, c65, x65, rfl, _⟩ := hv
    (refine Chg.LexW.pure (v := ?_) rfl rfl (fun w1 he => ?_) ?_; rotate_left; ( have he' : Drw S _ _ := he; have x0 := he'.cell (p := ⟨O, 0, none⟩) hgO HC.out.c0; have x1 := he'.cell (p := ⟨O, 1, none⟩) hgO HC.out.c1; go_simp; rfl); simp only [Act.put, List.setIfInBounds_toArray, List.set_cons_zero, List.set_cons_succ])
    (refine Chg.LexW.callR (f := ?_) (args := ?_) rfl rfl (fun w1 => ?_) (fun w1 he hdep => ?_) (fun v hv => ?_); rotate_left 2; (go_simp; refine ⟨?_, ?_⟩ <;> rfl); ( have he' : Drw S _ _ := he; obtain ⟨_, _, y65, q65, p65, r65⟩ : (Chg.SPred.ownP S w.heap.size N (Good p N) hlt).holds (.slice (some ⟨g65, 0, none⟩) N c65) w1 := hdep (5, 65) (by decide +kernel); cases q65; (refine Calls.mono (s_partW _ N _ y65 k w1 (by omega) r65.rd) ?_; rintro e w9 ⟨g9, y9, rfl, ho9, x9⟩; exact ⟨_, rfl, Drw.of_ext x9, g9, _, _, rfl, trivial, ho9.mono (Nat.le_trans G.out.size he'.size)⟩)); simp only [Act.put, List.setIfInBounds_toArray, List.set_cons_zero, List.set_cons_succ])
    obtain ⟨_, g67, c67, x67, rfl, _⟩ := hv
    (refine Chg.LexW.pure (v := ?_) rfl rfl (fun w1 he => ?_) ?_; rotate_left; ( have he' : Drw S _ _ := he; have x0 := he'.cell (p := ⟨O, 0, none⟩) hgO HC.out.c0; have x1 := he'.cell (p := ⟨O, 1, none⟩) hgO HC.out.c1; go_simp; rfl); simp only [Act.put, List.setIfInBounds_toArray, List.set_cons_zero, List.set_cons_succ])
    refine Chg.LexW.nil (fun v4 he hkn => ?_)
    have gg : Drw S v3.drew v4 := he
    obtain ⟨_, _, y67, q67, p67, r67⟩ : (Chg.SPred.ownP S w.heap.size N (fun _ => True) hlt).holds (.slice (some ⟨g67, 0, none⟩) N c67) _ := hkn (7, _) (by simp)
    cases q67
    have R9 := Lib.hid r67
    replace G := Lib.hid (G.out.trans gg)
    replace HC := Lib.hid (HC.out.drw gg hgO)
    replace HQ := Lib.hid (gg.own HQ.out hB)
    replace R0 := Lib.hid (gg.own R0.out hlt)
    clear gg he hkn
    go_wp2_with (fail)
    go_ret
    first | exact ⟨_, _, _, rfl, R9.out, G.out⟩ | exact ⟨_, _, rfl, ⟨_, R9.out⟩, G.out⟩
  by_cases h3 : r = 3
  · subst h3
    have c0 := HC.out.c0
    have c1 := HC.out.c1
    go_wp2_with (fail)
    clear c0 c1
    refine Calls.mono (s_next S 4 v2 (G.out.src HS.out) (by decide)) ?_
    rintro e v3 ⟨k, rfl, hk, gg⟩
    replace G := Lib.hid (G.out.trans gg)
    replace HC := Lib.hid (HC.out.drw gg hgO)
    replace HQ := Lib.hid (gg.own HQ.out hB)
    replace R0 := Lib.hid (gg.own R0.out hlt)
    clear gg
    obtain ⟨m, rfl⟩ : ∃ m : Nat, k = (m : Int) := ⟨k.toNat, by have := hk.2 (by decide); omega⟩
    have hm4 : m < 4 := by have := hk.2 (by decide); omega
    clear hk
    have c0 := HC.out.c0
    have c1 := HC.out.c1
    go_wp2_with (fail)
    clear c0 c1
    go_loopw [8] (fun i wr => ∃ (j : Nat) (xs : List Int), j ≤ m ∧ i = .int .i64 ((m - j : Nat) : Int) ∧ Hid (OwnC w.heap.size wr (some ⟨g0, 0, none⟩) N N xs) ∧ Hid (SpAt wr O p (.slice (some ⟨ga, 0, none⟩) d cap)) ∧ Hid (OwnC B wr (some ⟨ga, 0, none⟩) d cap qs) ∧ Hid (Drw S w wr)) (fun i _ => (intOf i).toNat)
    case atStart => exact ⟨0, _, Nat.zero_le _, by simp, R0, HC, HQ, G⟩
    case round =>
      clear R0 HC HQ G
      obtain ⟨j, xs, hj, rfl, R0, HC, HQ, G⟩ := hrel
      by_cases hjm : j < m
      · obtain ⟨t, ht⟩ : ∃ t : Nat, m - j = t + 1 := ⟨m - j - 1, by omega⟩
        rw [ht]
        have c0 := HC.out.c0
        have c1 := HC.out.c1
        go_wp2_with (fail)
        clear c0 c1
        have gg := Drw.of_ext (S := S) (ext_drew wr)
        replace G := Lib.hid (G.out.trans gg)
        replace HC := Lib.hid (HC.out.drw gg hgO)
        replace HQ := Lib.hid (gg.own HQ.out hB)
        replace R0 := Lib.hid (gg.own R0.out hlt)
        clear gg
        refine Chg.wp_region_lex_tail (E := Drw.rel S) 10 [(3, .val (.int .i64 N)), (4, .lt S N), (8, .lt S p)] (by kernel_rfl) (by kernel_rfl) ?_
        simp only [List.take, List.drop]
        (refine Chg.LexW.pure (v := ?_) rfl rfl (fun w1 he => ?_) ?_; rotate_left; ( have he' : Drw S _ _ := he; have x0 := he'.cell (p := ⟨O, 0, none⟩) hgO HC.out.c0; have x1 := he'.cell (p := ⟨O, 1, none⟩) hgO HC.out.c1; go_simp; rfl); simp only [Act.put, List.setIfInBounds_toArray, List.set_cons_zero, List.set_cons_succ])
        (refine Chg.LexW.pure (v := ?_) rfl rfl (fun w1 he => ?_) ?_; rotate_left; ( have he' : Drw S _ _ := he; have x0 := he'.cell (p := ⟨O, 0, none⟩) hgO HC.out.c0; have x1 := he'.cell (p := ⟨O, 1, none⟩) hgO HC.out.c1; go_simp; rfl); simp only [Act.put, List.setIfInBounds_toArray, List.set_cons_zero, List.set_cons_succ])
        (refine Chg.LexW.pure (v := ?_) rfl rfl (fun w1 he => ?_) ?_; rotate_left; ( have he' : Drw S _ _ := he; have x0 := he'.cell (p := ⟨O, 0, none⟩) hgO HC.out.c0; have x1 := he'.cell (p := ⟨O, 1, none⟩) hgO HC.out.c1; go_simp; rfl); simp only [Act.put, List.setIfInBounds_toArray, List.set_cons_zero, List.set_cons_succ])
        (refine Chg.LexW.call (f := ?_) (args := ?_) rfl rfl (fun w1 => ?_) (fun w1 he hdep => ?_) ?_; rotate_left 2; (go_simp; refine ⟨?_, ?_⟩ <;> rfl); ( have he' : Drw S _ _ := he; have H := s_size p (some ⟨ga, 0, none⟩) d cap w1 hd6; rw [← HN.out] at H; exact H.mono fun e w' h => ⟨h.1, Drw.of_ext h.2⟩); simp only [Act.put, List.setIfInBounds_toArray, List.set_cons_zero, List.set_cons_succ])
        (refine Chg.LexW.callR (f := ?_) (args := ?_) rfl rfl (fun w1 => ?_) (fun w1 he hdep => ?_) (fun v hv => ?_); rotate_left 2; (go_simp; refine ⟨?_, ?_⟩ <;> rfl); ( have he' : Drw S _ _ := he; (refine Calls.mono (s_next S N _ ((G.out.trans he').src HS.out) (by omega)) ?_; rintro e w9 ⟨r9, rfl, hr9, g9⟩; exact ⟨_, rfl, g9, r9, rfl, hr9.2 (by omega)⟩)); simp only [Act.put, List.setIfInBounds_toArray, List.set_cons_zero, List.set_cons_succ])
        obtain ⟨_, k0, rfl, hk0, hk1⟩ := hv
        obtain ⟨kk, rfl⟩ : ∃ kk : Nat, k0 = (kk : Int) := ⟨k0.toNat, by omega⟩
        have hkN : kk < N := by omega
        (refine Chg.LexW.pure (v := ?_) rfl rfl (fun w1 he => ?_) ?_; rotate_left; ( have he' : Drw S _ _ := he; have x0 := he'.cell (p := ⟨O, 0, none⟩) hgO HC.out.c0; have x1 := he'.cell (p := ⟨O, 1, none⟩) hgO HC.out.c1; go_simp; rfl); simp only [Act.put, List.setIfInBounds_toArray, List.set_cons_zero, List.set_cons_succ])
        (refine Chg.LexW.pure (v := ?_) rfl rfl (fun w1 he => ?_) ?_; rotate_left; ( have he' : Drw S _ _ := he; have x0 := he'.cell (p := ⟨O, 0, none⟩) hgO HC.out.c0; have x1 := he'.cell (p := ⟨O, 1, none⟩) hgO HC.out.c1; go_simp; rfl); simp only [Act.put, List.setIfInBounds_toArray, List.set_cons_zero, List.set_cons_succ])
        (refine Chg.LexW.pure (v := ?_) rfl rfl (fun w1 he => ?_) ?_; rotate_left; ( have he' : Drw S _ _ := he; have x0 := he'.cell (p := ⟨O, 0, none⟩) hgO HC.out.c0; have x1 := he'.cell (p := ⟨O, 1, none⟩) hgO HC.out.c1; go_simp; rfl); simp only [Act.put, List.setIfInBounds_toArray, List.set_cons_zero, List.set_cons_succ])
        (refine Chg.LexW.callR (f := ?_) (args := ?_) rfl rfl (fun w1 => ?_) (fun w1 he hdep => ?_) (fun v hv => ?_); rotate_left 2; (go_simp; refine ⟨?_, ?_⟩ <;> rfl); ( have he' : Drw S _ _ := he; (refine Calls.mono (s_next S p _ ((G.out.trans he').src HS.out) (by omega)) ?_; rintro e w9 ⟨r9, rfl, hr9, g9⟩; exact ⟨_, rfl, g9, r9, rfl, hr9.2 (by omega)⟩)); simp only [Act.put, List.setIfInBounds_toArray, List.set_cons_zero, List.set_cons_succ])
        obtain ⟨_, v0, rfl, _, _⟩ := hv
        (refine Chg.LexW.pure (v := ?_) rfl rfl (fun w1 he => ?_) ?_; rotate_left; ( have he' : Drw S _ _ := he; have x0 := he'.cell (p := ⟨O, 0, none⟩) hgO HC.out.c0; have x1 := he'.cell (p := ⟨O, 1, none⟩) hgO HC.out.c1; go_simp; rfl); simp only [Act.put, List.setIfInBounds_toArray, List.set_cons_zero, List.set_cons_succ])
        refine Chg.LexW.nil (fun v4 he hkn => ?_)
        have gg : Drw S wr.drew v4 := he
        replace G := Lib.hid (G.out.trans gg)
        replace HC := Lib.hid (HC.out.drw gg hgO)
        replace HQ := Lib.hid (gg.own HQ.out hB)
        replace R0 := Lib.hid (gg.own R0.out hlt)
        clear gg he hkn
        have cz := R0.out.cell hkN
        have fz := R0.out.frozen kk
        have bz := R0.out.base_le
        go_wp2_with (fail)
        go_roundw
        case rel => exact ⟨j + 1, _, by omega, by go_num, Lib.hid (R0.out.store hkN _), Lib.hid (HC.out.other (show g0 ≠ O from fun h => hOg h.symm) _), Lib.hid (HQ.out.keep (fun g hg => Below.heap_setCell _ _ _ _ (by simp only [Option.some.injEq, Addr.mk.injEq, and_true] at hg; rw [← hg]; exact hgg0))), Lib.hid (G.out.setCell bz.1 _)⟩
        case measure => simp [intOf]
      · have hz : m - j = 0 := by omega
        rw [hz]
        go_wp2_with (fail)
        go_ret
        exact ⟨_, _, _, rfl, R0.out, G.out⟩
  have b0 : (r == 0) = false := by simp [h0]
  have b1 : (r == 1) = false := by simp [h1]
  have b2 : (r == 2) = false := by simp [h2]
  have b3 : (r == 3) = false := by simp [h3]
  have c0 := HC.out.c0
  have c1 := HC.out.c1
  go_wp2_with (fail)
  clear c0 c1
  have gg := Drw.of_ext (S := S) (ext_drew v2)
  replace G := Lib.hid (G.out.trans gg)
  replace HC := Lib.hid (HC.out.drw gg hgO)
  replace HQ := Lib.hid (gg.own HQ.out hB)
  replace R0 := Lib.hid (gg.own R0.out hlt)
  clear gg
  refine Chg.wp_region_lex (E := Drw.rel S) [(4, .val (.int .i64 N)), (5, .ownP S w.heap.size N (Good p N) hlt)] (by kernel_rfl) (by kernel_rfl) ?_
  (refine Chg.LexW.pure (v := ?_) rfl rfl (fun w1 he => ?_) ?_; rotate_left; ( have he' : Drw S _ _ := he; have x0 := he'.cell (p := ⟨O, 0, none⟩) hgO HC.out.c0; have x1 := he'.cell (p := ⟨O, 1, none⟩) hgO HC.out.c1; go_simp; rfl); simp only [Act.put, List.setIfInBounds_toArray, List.set_cons_zero, List.set_cons_succ])
  (refine Chg.LexW.pure (v := ?_) rfl rfl (fun w1 he => ?_) ?_; rotate_left; ( have he' : Drw S _ _ := he; have x0 := he'.cell (p := ⟨O, 0, none⟩) hgO HC.out.c0; have x1 := he'.cell (p := ⟨O, 1, none⟩) hgO HC.out.c1; go_simp; rfl); simp only [Act.put, List.setIfInBounds_toArray, List.set_cons_zero, List.set_cons_succ])
  (refine Chg.LexW.pure (v := ?_) rfl rfl (fun w1 he => ?_) ?_; rotate_left; ( have he' : Drw S _ _ := he; have x0 := he'.cell (p := ⟨O, 0, none⟩) hgO HC.out.c0; have x1 := he'.cell (p := ⟨O, 1, none⟩) hgO HC.out.c1; go_simp; rfl); simp only [Act.put, List.setIfInBounds_toArray, List.set_cons_zero, List.set_cons_succ])
  (refine Chg.LexW.pure (v := ?_) rfl rfl (fun w1 he => ?_) ?_; rotate_left; ( have he' : Drw S _ _ := he; have x0 := he'.cell (p := ⟨O, 0, none⟩) hgO HC.out.c0; have x1 := he'.cell (p := ⟨O, 1, none⟩) hgO HC.out.c1; go_simp; rfl); simp only [Act.put, List.setIfInBounds_toArray, List.set_cons_zero, List.set_cons_succ])
  (refine Chg.LexW.call (f := ?_) (args := ?_) rfl rfl (fun w1 => ?_) (fun w1 he hdep => ?_) ?_; rotate_left 2; (go_simp; refine ⟨?_, ?_⟩ <;> rfl); ( have he' : Drw S _ _ := he; have H := s_size p (some ⟨ga, 0, none⟩) d cap w1 hd6; rw [← HN.out] at H; exact H.mono fun e w' h => ⟨h.1, Drw.of_ext h.2⟩); simp only [Act.put, List.setIfInBounds_toArray, List.set_cons_zero, List.set_cons_succ])
  (refine Chg.LexW.callR (f := ?_) (args := ?_) rfl rfl (fun w1 => ?_) (fun w1 he hdep => ?_) (fun v hv => ?_); rotate_left 2; (go_simp; refine ⟨?_, ?_⟩ <;> rfl); ( have he' : Drw S _ _ := he; (refine Calls.mono (s_dlist S p N _ ((G.out.trans he').src HS.out) (by omega) (by omega)) ?_; rintro e w9 ⟨a9, c9, x9, rfl, ho9, hb9, g9⟩; obtain ⟨g8, _, rfl, _⟩ := ho9.row (by omega); exact ⟨_, rfl, g9, g8, c9, x9, rfl, isB_Good ho9.1 (hb9 (by omega)), ho9.mono (Nat.le_trans G.out.size he'.size)⟩)); simp only [Act.put, List.setIfInBounds_toArray, List.set_cons_zero, List.set_cons_succ])
  obtain ⟨_, g18, c18, x18, rfl, _⟩ := hv
  (refine Chg.LexW.pure (v := ?_) rfl rfl (fun w1 he => ?_) ?_; rotate_left; ( have he' : Drw S _ _ := he; have x0 := he'.cell (p := ⟨O, 0, none⟩) hgO HC.out.c0; have x1 := he'.cell (p := ⟨O, 1, none⟩) hgO HC.out.c1; go_simp; rfl); simp only [Act.put, List.setIfInBounds_toArray, List.set_cons_zero, List.set_cons_succ])
  refine Chg.LexW.nil (fun v3 he hkn => ?_)
  have gg : Drw S v2.drew v3 := he
  obtain ⟨_, _, y18, q18, p18, r18⟩ : (Chg.SPred.ownP S w.heap.size N (Good p N) hlt).holds (.slice (some ⟨g18, 0, none⟩) N c18) _ := hkn (5, _) (by simp)
  cases q18
  have R9 := Lib.hid r18
  replace G := Lib.hid (G.out.trans gg)
  replace HC := Lib.hid (HC.out.drw gg hgO)
  replace HQ := Lib.hid (gg.own HQ.out hB)
  replace R0 := Lib.hid (gg.own R0.out hlt)
  clear gg he hkn
  go_wp2_with (fail)
  go_ret
  first | exact ⟨_, _, _, rfl, R9.out, G.out⟩ | exact ⟨_, _, rfl, ⟨_, R9.out⟩, G.out⟩
end Go.Proofs.Ytnbhlabcecdbgaa

/-
  Draws of multivectors, some of which are none; of a space and two of them.
  No condition.
-/
namespace Go.Proofs.Ytnbhlabcecdbgaa
set_option maxRecDepth 100000
open Go.RowKit

theorem own_pair (w : World) (x y : Int) : OwnC w.heap.size (w.alloc (.cells #[.int .i64 x, .int .i64 y] 2)) (some ⟨w.heap.size, 0, none⟩) 2 2 [x, y] :=
  ⟨rfl, ⟨rfl, .inr ⟨w.heap.size, 2, #[.int .i64 x, .int .i64 y], rfl, Nat.le_refl _, heap_alloc_new w _, Nat.le_refl _, by unfold maxLen; omega, by simp, by simp⟩⟩⟩

set_option maxHeartbeats 8000000 in
set_option maxRecDepth 100000 in
theorem s_spoil4 (S : SrcP) (B : Nat) (p : Int) (a : Option Addr) (d cap : Nat) (qs : List Int) (w : World) (hS : Src S w) (hB : S.g < B) (hd : d ≤ 7) (hq : OwnC B w a d cap qs) :
    Calls Try.prog 39 #[.pointer (some ⟨S.g, 0, none⟩), .agg #[.int .i64 p, .slice a d cap]] w fun e w' => ∃ b c m xs, e = .returned (.slice b m c) ∧ m ≤ 65 ∧ OwnC w.heap.size w' b m c xs ∧ Drw S w w' := by
  have HS := Lib.hid hS
  have hlt := hS.lt
  obtain ⟨O, hO⟩ : ∃ O, O = w.heap.size := ⟨_, rfl⟩
  obtain ⟨W, hW⟩ : ∃ W, W = w.alloc (.cells #[.int .i64 p, .slice a d cap] 26) := ⟨_, rfl⟩
  have hgW : Ext w W := by rw [hW]; exact ext_alloc _ _
  have G := Lib.hid (Drw.of_ext (S := S) hgW)
  have HC := Lib.hid (show SpAt W O p (.slice a d cap) by rw [hW, hO]; exact ⟨by simp, by simp, by simp, by simp⟩)
  have HQ := Lib.hid (hq.ext hgW)
  have hgO : O ≠ S.g := by omega
  have hOw : w.heap.size ≤ O := by omega
  have HDL := Lib.hid hq.1
  clear hS hq hgW
  go_enter Try.func39, Try.ntmps39
  have c0 := HC.out.c0
  have c1 := HC.out.c1
  go_wp2_with (fail)
  rw [← hO, ← hW]
  have HW := Lib.hid hW
  clear hO hW c0 c1
  refine Calls.mono (s_is p a d cap qs W (by omega) HQ.out.rd) ?_
  rintro e v1 ⟨rfl, gg⟩
  replace gg := Drw.of_ext (S := S) gg
  replace G := Lib.hid (G.out.trans gg)
  replace HC := Lib.hid (HC.out.drw gg hgO)
  replace HQ := Lib.hid (gg.own HQ.out hB)
  clear gg
  cases hs : spaceB p qs
  · skip
    go_wp2_with (fail)
    go_ret
    exact ⟨_, _, _, _, rfl, by omega, (own_pair v1 1 0).mono G.out.size, G.out.alloc _⟩
  obtain ⟨hpr, hd1, hd6, hqb⟩ := space_of hs
  have hpb := prime_bd hpr
  rw [HDL.out] at hd1 hd6
  obtain ⟨N, hN⟩ : ∃ N, N = 2 ^ d := ⟨_, rfl⟩
  have hN6 : N ≤ 64 := by rw [hN]; exact pow_le64 hd6
  have hN1 : 0 < N := by rw [hN]; exact pow_pos' d
  have HN := Lib.hid hN
  have HSP := Lib.hid hs
  clear hN hqb hs
  have c0 := HC.out.c0
  have c1 := HC.out.c1
  go_wp2_with (fail)
  clear c0 c1
  refine Calls.mono (s_draw4 S B p a d cap qs v1 (G.out.src HS.out) hB HN.out HSP.out HQ.out) ?_
  rintro e v2 ⟨g0, cc, xs, rfl, ho, gg⟩
  have hg0 := ho.base_le.1
  have hOl := HC.out.lt
  have hOg : O ≠ g0 := by omega
  clear hg0 hOl
  have R0 := Lib.hid (ho.mono (show w.heap.size ≤ _ from G.out.size))
  clear ho
  replace G := Lib.hid (G.out.trans gg)
  replace HC := Lib.hid (HC.out.drw gg hgO)
  replace HQ := Lib.hid (gg.own HQ.out hB)
  clear gg
  have c0 := HC.out.c0
  have c1 := HC.out.c1
  go_wp2_with (fail)
  clear c0 c1
  refine Calls.mono (s_next S 30 v2 (G.out.src HS.out) (by decide)) ?_
  rintro e v3 ⟨r, rfl, _, gg⟩
  replace G := Lib.hid (G.out.trans gg)
  replace HC := Lib.hid (HC.out.drw gg hgO)
  replace HQ := Lib.hid (gg.own HQ.out hB)
  replace R0 := Lib.hid (gg.own R0.out hlt)
  clear gg
  by_cases h0 : r = 0
  · subst h0
    go_wp2_with (at_builtin; refine wpList_push rfl (.tmp 17) (.tmp 18) rfl rfl rfl (v := 0) (R0.out.ext (ext_alloc _ _)) ?hc ?hn ?hB ?hk)
    case hc => simp
    case hn => omega
    case hB => have := G.out.size; simp; omega
    case hk =>
      intro g' cap2 w6 ho6 hg6 he6
      have HO3 := Lib.hid ho6
      have G3 := Lib.hid ((G.out.alloc _).grown hg6 (fun k hk => R0.out.blk k hk))
      clear ho6 hg6 he6
      go_wp2_with (fail)
      go_ret
      exact ⟨_, _, _, _, rfl, by omega, HO3.out, G3.out⟩
  by_cases h1 : r = 1
  · subst h1
    have c0 := HC.out.c0
    have c1 := HC.out.c1
    go_wp2_with (fail)
    clear c0 c1
    have gg := Drw.of_ext (S := S) (ext_drew v3)
    replace G := Lib.hid (G.out.trans gg)
    replace HC := Lib.hid (HC.out.drw gg hgO)
    replace HQ := Lib.hid (gg.own HQ.out hB)
    replace R0 := Lib.hid (gg.own R0.out hlt)
    clear gg
    refine Chg.wp_region_lex_tail (E := Drw.rel S) 11 [(3, .val (.int .i64 N)), (4, .lt S N), (8, .lit S 2 [-1, p]), (9, .some_ S)] (by kernel_rfl) (by kernel_rfl) ?_
    simp only [List.take, List.drop]
    (refine Chg.LexW.pure (v := ?_) rfl rfl (fun w1 he => ?_) ?_; rotate_left; ( have he' : Drw S _ _ := he; have x0 := he'.cell (p := ⟨O, 0, none⟩) hgO HC.out.c0; have x1 := he'.cell (p := ⟨O, 1, none⟩) hgO HC.out.c1; go_simp; rfl); simp only [Act.put, List.setIfInBounds_toArray, List.set_cons_zero, List.set_cons_succ])
    (refine Chg.LexW.pure (v := ?_) rfl rfl (fun w1 he => ?_) ?_; rotate_left; ( have he' : Drw S _ _ := he; have x0 := he'.cell (p := ⟨O, 0, none⟩) hgO HC.out.c0; have x1 := he'.cell (p := ⟨O, 1, none⟩) hgO HC.out.c1; go_simp; rfl); simp only [Act.put, List.setIfInBounds_toArray, List.set_cons_zero, List.set_cons_succ])
    (refine Chg.LexW.pure (v := ?_) rfl rfl (fun w1 he => ?_) ?_; rotate_left; ( have he' : Drw S _ _ := he; have x0 := he'.cell (p := ⟨O, 0, none⟩) hgO HC.out.c0; have x1 := he'.cell (p := ⟨O, 1, none⟩) hgO HC.out.c1; go_simp; rfl); simp only [Act.put, List.setIfInBounds_toArray, List.set_cons_zero, List.set_cons_succ])
    (refine Chg.LexW.call (f := ?_) (args := ?_) rfl rfl (fun w1 => ?_) (fun w1 he hdep => ?_) ?_; rotate_left 2; (go_simp; refine ⟨?_, ?_⟩ <;> rfl); ( have he' : Drw S _ _ := he; have H := s_size p a d cap w1 hd6; rw [← HN.out] at H; exact H.mono fun e w' h => ⟨h.1, Drw.of_ext h.2⟩); simp only [Act.put, List.setIfInBounds_toArray, List.set_cons_zero, List.set_cons_succ])
    (refine Chg.LexW.callR (f := ?_) (args := ?_) rfl rfl (fun w1 => ?_) (fun w1 he hdep => ?_) (fun v hv => ?_); rotate_left 2; (go_simp; refine ⟨?_, ?_⟩ <;> rfl); ( have he' : Drw S _ _ := he; (refine Calls.mono (s_next S N _ ((G.out.trans he').src HS.out) (by omega)) ?_; rintro e w9 ⟨r9, rfl, hr9, g9⟩; exact ⟨_, rfl, g9, r9, rfl, hr9.2 (by omega)⟩)); simp only [Act.put, List.setIfInBounds_toArray, List.set_cons_zero, List.set_cons_succ])
    obtain ⟨_, k0, rfl, hk0, hk1⟩ := hv
    obtain ⟨kk, rfl⟩ : ∃ kk : Nat, k0 = (kk : Int) := ⟨k0.toNat, by omega⟩
    have hkN : kk < N := by omega
    (refine Chg.LexW.pure (v := ?_) rfl rfl (fun w1 he => ?_) ?_; rotate_left; ( have he' : Drw S _ _ := he; have x0 := he'.cell (p := ⟨O, 0, none⟩) hgO HC.out.c0; have x1 := he'.cell (p := ⟨O, 1, none⟩) hgO HC.out.c1; go_simp; rfl); simp only [Act.put, List.setIfInBounds_toArray, List.set_cons_zero, List.set_cons_succ])
    (refine Chg.LexW.pure (v := ?_) rfl rfl (fun w1 he => ?_) ?_; rotate_left; ( have he' : Drw S _ _ := he; have x0 := he'.cell (p := ⟨O, 0, none⟩) hgO HC.out.c0; have x1 := he'.cell (p := ⟨O, 1, none⟩) hgO HC.out.c1; go_simp; rfl); simp only [Act.put, List.setIfInBounds_toArray, List.set_cons_zero, List.set_cons_succ])
    (refine Chg.LexW.pure (v := ?_) rfl rfl (fun w1 he => ?_) ?_; rotate_left; ( have he' : Drw S _ _ := he; have x0 := he'.cell (p := ⟨O, 0, none⟩) hgO HC.out.c0; have x1 := he'.cell (p := ⟨O, 1, none⟩) hgO HC.out.c1; go_simp; rfl); simp only [Act.put, List.setIfInBounds_toArray, List.set_cons_zero, List.set_cons_succ])
    (refine Chg.LexW.rel rfl rfl (fun w1 he hdep => ?_) (fun v hv => ?_); ( have he' : Drw S _ _ := he; exact ⟨.slice (some ⟨w1.heap.size, 0, none⟩) 2 2, w1.alloc (.cells #[.int .i64 (-1), .int .i64 p] 2), (by go_simp), Drw.of_ext (ext_alloc _ _), _, rfl, rdC_lit w1 _ [-1, p], (by have := he'.size; have := G.out.size; omega)⟩); simp only [Act.put, List.setIfInBounds_toArray, List.set_cons_zero, List.set_cons_succ])
    obtain ⟨_, b5, rfl, _⟩ := hv
    (refine Chg.LexW.callR (f := ?_) (args := ?_) rfl rfl (fun w1 => ?_) (fun w1 he hdep => ?_) (fun v hv => ?_); rotate_left 2; (go_simp; refine ⟨?_, ?_⟩ <;> rfl); ( have he' : Drw S _ _ := he; obtain ⟨_, q5, r5, r5'⟩ : (Chg.SPred.lit S 2 [-1, p]).holds (.slice (some ⟨b5, 0, none⟩) 2 2) w1 := hdep (8, 30) (by decide +kernel); cases q5; refine Calls.mono (s_pick S b5 2 2 [-1, p] w1 ((G.out.trans he').src HS.out) (by decide) (by decide) r5 r5') ?_; rintro e w3 ⟨q, rfl, _, x3⟩; exact ⟨_, rfl, x3, q, rfl⟩); simp only [Act.put, List.setIfInBounds_toArray, List.set_cons_zero, List.set_cons_succ])
    obtain ⟨_, v0, rfl⟩ := hv
    (refine Chg.LexW.pure (v := ?_) rfl rfl (fun w1 he => ?_) ?_; rotate_left; ( have he' : Drw S _ _ := he; have x0 := he'.cell (p := ⟨O, 0, none⟩) hgO HC.out.c0; have x1 := he'.cell (p := ⟨O, 1, none⟩) hgO HC.out.c1; go_simp; rfl); simp only [Act.put, List.setIfInBounds_toArray, List.set_cons_zero, List.set_cons_succ])
    refine Chg.LexW.nil (fun v4 he hkn => ?_)
    have gg : Drw S v3.drew v4 := he
    replace G := Lib.hid (G.out.trans gg)
    replace HC := Lib.hid (HC.out.drw gg hgO)
    replace HQ := Lib.hid (gg.own HQ.out hB)
    replace R0 := Lib.hid (gg.own R0.out hlt)
    clear gg he hkn
    have cz := R0.out.cell hkN
    have fz := R0.out.frozen kk
    have bz := R0.out.base_le
    go_wp2_with (fail)
    go_ret
    exact ⟨_, _, _, _, rfl, by omega, R0.out.store hkN _, G.out.setCell bz.1 _⟩
  have b0 : (r == 0) = false := by simp [h0]
  have b1 : (r == 1) = false := by simp [h1]
  go_wp2_with (fail)
  go_ret
  exact ⟨_, _, _, _, rfl, by omega, R0.out, G.out⟩
set_option maxHeartbeats 4000000 in
set_option maxRecDepth 100000 in
theorem s_l04Two (ca : Option Addr) (n cap : Nat) (w : World) (hn : n ≤ 4096) (hb : RdY w ca n) :
    Calls Try.prog 20 #[.slice ca n cap] w fun e w' => ∃ p a d c qs a1 m1 c1 x1 a2 m2 c2 x2, e = .returned (.tuple #[.agg #[.int .i64 p, .slice a d c], .slice a1 m1 c1, .slice a2 m2 c2]) ∧ 0 ≤ p ∧ p ≤ 17 ∧ d ≤ 7 ∧ m1 ≤ 65 ∧ m2 ≤ 65 ∧ OwnC w.heap.size w' a d c qs ∧ OwnC w.heap.size w' a1 m1 c1 x1 ∧ OwnC w.heap.size w' a2 m2 c2 x2 ∧ Ext w w' := by
  obtain ⟨W, hW⟩ : ∃ W, W = w.alloc (.cells #[.int .i64 0, .slice none 0 0] 26) := ⟨_, rfl⟩
  have gW : Ext w W := by rw [hW]; exact ext_alloc _ _
  have HZ := Lib.hid (show W.heap.size = w.heap.size + 1 by rw [hW]; simp)
  have HR := Lib.hid (show SpAt W w.heap.size 0 (.slice none 0 0) by rw [hW]; exact ⟨by simp, by simp, by simp, by simp⟩)
  have HW := Lib.hid hW
  have GW := Lib.hid gW
  have HB := Lib.hid (hb.ext gW)
  clear gW hW hb
  go_enter Try.func20, Try.ntmps20
  go_wp2_with (fail)
  rw [← HW.out]
  refine Calls.mono (s_from ca n cap W hn HB.out) ?_
  rintro e w1 ⟨g, rfl, hg, hS, g1⟩
  obtain ⟨S, hSe⟩ : ∃ S : SrcP, S = ⟨g, ca, n, cap⟩ := ⟨_, rfl⟩
  obtain rfl : g = S.g := by rw [hSe]
  rw [← hSe] at hS
  have HS := Lib.hid hS
  have HR1 := Lib.hid (HR.out.ext g1)
  have G1 := Lib.hid (GW.out.trans g1)
  have hgR : w.heap.size ≠ S.g := by have := HZ.out; omega
  have hgw : w.heap.size + 1 ≤ S.g := by have := HZ.out; omega
  have hlt := hS.lt
  clear hg hS g1 hSe HR
  go_wp2_with (fail)
  refine Calls.mono (s_spoil3 S w1 HS.out) ?_
  rintro e w2 ⟨p, a, d, c, qs, rfl, hp0, hp1, hd, ho, g2⟩
  obtain ⟨W2, hW2⟩ : ∃ W2, W2 = w2.alloc (.cells #[.int .i64 p, .slice a d c] 26) := ⟨_, rfl⟩
  obtain ⟨O, hO⟩ : ∃ O, O = w2.heap.size := ⟨_, rfl⟩
  have gW2 : Ext w2 W2.drew := by rw [hW2]; exact (ext_alloc _ _).trans (ext_drew _)
  have hOA : SpAt W2.drew O p (.slice a d c) := by
    have : SpAt W2 O p (.slice a d c) := by rw [hW2, hO]; exact ⟨by simp, by simp, by simp, by simp⟩
    exact this.ext (ext_drew _)
  have HOA := Lib.hid hOA
  have HR2 := Lib.hid ((HR1.out.drw g2 hgR).ext gW2)
  have HQ2 := Lib.hid ((ho.mono (show S.g + 1 ≤ _ from hlt)).ext gW2)
  have G2 := Lib.hid (g2.ext gW2)
  have hgO : O ≠ S.g := by rw [hO]; have := g2.size; omega
  go_wp2_with (fail)
  rw [← hW2, ← hO]
  have HS2 := Lib.hid (G2.out.src HS.out)
  clear hO gW2 ho g2 hW2 hOA HR1
  refine Chg.wp_region_lex_tail (E := Drw.rel S) 7 [(3, .own S (S.g + 1) 65 (Nat.lt_succ_self _)), (6, .own S (S.g + 1) 65 (Nat.lt_succ_self _))] (by kernel_rfl) (by kernel_rfl) ?_
  simp only [List.take, List.drop]
  (refine Chg.LexW.pure (v := ?_) rfl rfl (fun w1 he => ?_) ?_; rotate_left; ( have he' : Drw S W2.drew _ := he; have x0 := he'.cell (p := ⟨O, 0, none⟩) hgO HOA.out.c0; have x1 := he'.cell (p := ⟨O, 1, none⟩) hgO HOA.out.c1; go_simp; rfl); simp only [Act.put, List.setIfInBounds_toArray, List.set_cons_zero, List.set_cons_succ])
  (refine Chg.LexW.pure (v := ?_) rfl rfl (fun w1 he => ?_) ?_; rotate_left; ( have he' : Drw S W2.drew _ := he; have x0 := he'.cell (p := ⟨O, 0, none⟩) hgO HOA.out.c0; have x1 := he'.cell (p := ⟨O, 1, none⟩) hgO HOA.out.c1; go_simp; rfl); simp only [Act.put, List.setIfInBounds_toArray, List.set_cons_zero, List.set_cons_succ])
  (refine Chg.LexW.pure (v := ?_) rfl rfl (fun w1 he => ?_) ?_; rotate_left; ( have he' : Drw S W2.drew _ := he; have x0 := he'.cell (p := ⟨O, 0, none⟩) hgO HOA.out.c0; have x1 := he'.cell (p := ⟨O, 1, none⟩) hgO HOA.out.c1; go_simp; rfl); simp only [Act.put, List.setIfInBounds_toArray, List.set_cons_zero, List.set_cons_succ])
  (refine Chg.LexW.callR (f := ?_) (args := ?_) rfl rfl (fun w1 => ?_) (fun w1 he hdep => ?_) (fun v hv => ?_); rotate_left 2; (go_simp; refine ⟨?_, ?_⟩ <;> rfl); ( have he' : Drw S W2.drew _ := he; refine Calls.mono (s_spoil4 S (S.g + 1) p a d c qs w1 (he'.src HS2.out) (Nat.lt_succ_self _) (by omega) (he'.own HQ2.out (Nat.lt_succ_self _))) ?_; rintro e w9 ⟨a9, c9, m9, x9, rfl, hm9, ho9, g9⟩; exact ⟨_, rfl, g9, a9, m9, c9, x9, rfl, by omega, ho9.mono (Nat.le_trans HS2.out.lt he'.size)⟩); simp only [Act.put, List.setIfInBounds_toArray, List.set_cons_zero, List.set_cons_succ])
  obtain ⟨_, a1, m1, c1, x1, rfl, _⟩ := hv
  (refine Chg.LexW.pure (v := ?_) rfl rfl (fun w1 he => ?_) ?_; rotate_left; ( have he' : Drw S W2.drew _ := he; have x0 := he'.cell (p := ⟨O, 0, none⟩) hgO HOA.out.c0; have x1 := he'.cell (p := ⟨O, 1, none⟩) hgO HOA.out.c1; go_simp; rfl); simp only [Act.put, List.setIfInBounds_toArray, List.set_cons_zero, List.set_cons_succ])
  (refine Chg.LexW.pure (v := ?_) rfl rfl (fun w1 he => ?_) ?_; rotate_left; ( have he' : Drw S W2.drew _ := he; have x0 := he'.cell (p := ⟨O, 0, none⟩) hgO HOA.out.c0; have x1 := he'.cell (p := ⟨O, 1, none⟩) hgO HOA.out.c1; go_simp; rfl); simp only [Act.put, List.setIfInBounds_toArray, List.set_cons_zero, List.set_cons_succ])
  (refine Chg.LexW.callR (f := ?_) (args := ?_) rfl rfl (fun w1 => ?_) (fun w1 he hdep => ?_) (fun v hv => ?_); rotate_left 2; (go_simp; refine ⟨?_, ?_⟩ <;> rfl); ( have he' : Drw S W2.drew _ := he; refine Calls.mono (s_spoil4 S (S.g + 1) p a d c qs w1 (he'.src HS2.out) (Nat.lt_succ_self _) (by omega) (he'.own HQ2.out (Nat.lt_succ_self _))) ?_; rintro e w9 ⟨a9, c9, m9, x9, rfl, hm9, ho9, g9⟩; exact ⟨_, rfl, g9, a9, m9, c9, x9, rfl, by omega, ho9.mono (Nat.le_trans HS2.out.lt he'.size)⟩); simp only [Act.put, List.setIfInBounds_toArray, List.set_cons_zero, List.set_cons_succ])
  obtain ⟨_, a2, m2, c2, x2, rfl, _⟩ := hv
  refine Chg.LexW.nil (fun w3 he hkn => ?_)
  have he' : Drw S W2.drew w3 := he
  obtain ⟨a1', m1', c1', x1', q1, hm1, ho1⟩ : (Chg.SPred.own S (S.g + 1) 65 (Nat.lt_succ_self _)).holds (.slice a1 m1 c1) w3 := hkn (3, _) (by simp)
  obtain ⟨a2', m2', c2', x2', q2, hm2, ho2⟩ : (Chg.SPred.own S (S.g + 1) 65 (Nat.lt_succ_self _)).holds (.slice a2 m2 c2) w3 := hkn (6, _) (by simp)
  cases q1
  cases q2
  have HR3 := Lib.hid (HR2.out.drw he' hgR)
  have HQ3 := Lib.hid (he'.own HQ2.out (Nat.lt_succ_self _))
  have HO1 := Lib.hid ho1
  have HO2 := Lib.hid ho2
  have G3 := Lib.hid (G2.out.trans he')
  have r0 := HR3.out.c0
  have r1 := HR3.out.c1
  have f0 := HR3.out.f0
  have f1 := HR3.out.f1
  clear he he' hkn ho1 ho2
  go_wp2_with (fail)
  refine bodyPost_ret (v := .tuple #[.agg #[.int .i64 p, .slice a d c], .slice a1 m1 c1, .slice a2 m2 c2]) (by simp [results, Try.results20, go_sem, r0, r1]) rfl ⟨p, a, d, c, qs, a1, m1, c1, x1', a2, m2, c2, x2', rfl, hp0, hp1, hd, hm1, hm2, ?_, ?_, ?_, ?_⟩
  · exact ((HQ3.out.other (by simp; omega) _).other (by simp; omega) _).mono (by omega)
  · exact ((HO1.out.other (by simp; omega) _).other (by simp; omega) _).mono (by omega)
  · exact ((HO2.out.other (by simp; omega) _).other (by simp; omega) _).mono (by omega)
  · exact ((G3.out.toExt G1.out (by omega)).setCell (by simp) _).setCell (by simp) _
set_option maxHeartbeats 4000000 in
theorem s_drawWedgeProduct (ca : Option Addr) (n cap : Nat) (w : World) (hn : n ≤ 4096) (hb : RdY w ca n) :
    Calls Try.prog 5 #[.slice ca n cap] w fun e w' => ∃ p a d c qs a1 m1 c1 x1 a2 m2 c2 x2, e = .returned (.tuple #[.agg #[.int .i64 p, .slice a d c], .slice a1 m1 c1, .slice a2 m2 c2]) ∧ 0 ≤ p ∧ p ≤ 17 ∧ d ≤ 7 ∧ m1 ≤ 65 ∧ m2 ≤ 65 ∧ OwnC w.heap.size w' a d c qs ∧ OwnC w.heap.size w' a1 m1 c1 x1 ∧ OwnC w.heap.size w' a2 m2 c2 x2 ∧ Ext w w' := by
  obtain ⟨W, hW⟩ : ∃ W, W = w.alloc (.cells #[.int .i64 0, .slice none 0 0] 26) := ⟨_, rfl⟩
  have gW : Ext w W := by rw [hW]; exact ext_alloc _ _
  have HZ := Lib.hid (show W.heap.size = w.heap.size + 1 by rw [hW]; simp)
  have HR := Lib.hid (show SpAt W w.heap.size 0 (.slice none 0 0) by rw [hW]; exact ⟨by simp, by simp, by simp, by simp⟩)
  have HW := Lib.hid hW
  have GW := Lib.hid gW
  have HB := Lib.hid (hb.ext gW)
  clear gW hW hb
  go_enter Try.func5, Try.ntmps5
  go_wp2_with (fail)
  rw [← HW.out]
  refine Calls.mono (s_l04Two ca n cap W hn HB.out) ?_
  rintro e w1 ⟨p, a, d, c, qs, a1, m1, c1, x1, a2, m2, c2, x2, rfl, hp0, hp1, hd, hm1, hm2, ho, ho1, ho2, g1⟩
  have hR1 := HR.out.ext g1
  have r0 := hR1.c0
  have r1 := hR1.c1
  have f0 := hR1.f0
  have f1 := hR1.f1
  have lR := hR1.lt
  have hz := HZ.out
  have HQ := Lib.hid ho
  have HO1 := Lib.hid ho1
  have HO2 := Lib.hid ho2
  have G1 := Lib.hid (GW.out.trans g1)
  have HF := ((hR1.set0 p).set1 (.slice a d c)).ext (ext_alloc _ (.cells #[.int .i64 p, .slice a d c] 26))
  have r0' := HF.c0
  have r1' := HF.c1
  clear ho ho1 ho2 g1 hR1 HF
  go_wp2_with (fail)
  refine bodyPost_ret (v := .tuple #[.agg #[.int .i64 p, .slice a d c], .slice a1 m1 c1, .slice a2 m2 c2]) (by simp [results, Try.results5, go_sem, r0', r1']) rfl ⟨p, a, d, c, qs, a1, m1, c1, x1, a2, m2, c2, x2, rfl, hp0, hp1, hd, hm1, hm2, ?_, ?_, ?_, ?_⟩
  · exact (((HQ.out.other (by simp; omega) _).other (by simp; omega) _).ext (ext_alloc _ _)).mono (by omega)
  · exact (((HO1.out.other (by simp; omega) _).other (by simp; omega) _).ext (ext_alloc _ _)).mono (by omega)
  · exact (((HO2.out.other (by simp; omega) _).other (by simp; omega) _).ext (ext_alloc _ _)).mono (by omega)
  · exact ((G1.out.setCell (by simp) _).setCell (by simp) _).alloc _
end Go.Proofs.Ytnbhlabcecdbgaa

/-
  The listed functions of unduals, brackets, scalar products.
  No condition.
-/
namespace Go.Proofs.Ytnbhlabcecdbgaa
set_option maxRecDepth 100000
open Go.RowKit







end Go.Proofs.Ytnbhlabcecdbgaa

/-
  The wedge product, contractions, reverses and duals in plain numbers.
  No condition. No program in sight.
-/
namespace Go.Proofs.Ytnbhlabcecdbgaa
set_option maxRecDepth 100000
open Go.RowKit

/-! ### Products of parts are associative where their conditions agree -/
/-- The coefficient of a product of parts. -/
def tkI (tk : Nat → Nat → Bool) (a b : Nat) : Int := if tk a b = true then 1 else 0
theorem prodT_nth {p : Int} {qs x y : List Int} {tk : Nat → Nat → Bool} (hp : 1 ≤ p) {k : Nat} (hk : k < 2 ^ qs.length) :
    nth (prodL p qs tk x y) k = (sumN (2 ^ qs.length) fun i => tkI tk i (i ^^^ k) * (nth x i * nth y (i ^^^ k) * facZ qs i (i ^^^ k) qs.length)) % p := by
  rw [prod_nth1 hp hk]
  refine sumN_emod fun i hi => ?_
  unfold tkI
  split
  · rw [Int.one_mul]; exact mul_emod_congr rfl fac_emod
  · rw [Int.zero_mul]
/-- (x 1 y) 2 z = x 3 (y 4 z) -/
theorem prodT_assoc {p : Int} {qs x y z : List Int} {t1 t2 t3 t4 : Nat → Nat → Bool} (hp : 1 ≤ p) (hd : qs.length ≤ 6)
    (ht : ∀ a, a < 2 ^ qs.length → ∀ b, b < 2 ^ qs.length → ∀ c, c < 2 ^ qs.length → (t1 a b && t2 (a ^^^ b) c) = (t4 b c && t3 a (b ^^^ c))) :
    prodL p qs t2 (prodL p qs t1 x y) z = prodL p qs t3 x (prodL p qs t4 y z) := by
  have hN := pow_le64 hd
  have hT : ∀ a, a < 2 ^ qs.length → ∀ b, b < 2 ^ qs.length → ∀ c, c < 2 ^ qs.length → tkI t1 a b * tkI t2 (a ^^^ b) c = tkI t4 b c * tkI t3 a (b ^^^ c) := fun a ha b hb c hc => by
    have := ht a ha b hb c hc
    unfold tkI
    cases h1 : t1 a b <;> cases h2 : t2 (a ^^^ b) c <;> cases h3 : t4 b c <;> cases h4 : t3 a (b ^^^ c) <;> simp_all
  refine ext_nth (by rw [(prod_good hp).1, (prod_good hp).1]) fun k hk => ?_
  rw [(prod_good hp).1] at hk
  rw [prodT_nth hp hk, prodT_nth hp hk]
  have e1 : ∀ m, m < 2 ^ qs.length → (tkI t2 m (m ^^^ k) * (nth (prodL p qs t1 x y) m * nth z (m ^^^ k) * facZ qs m (m ^^^ k) qs.length)) % p =
      (sumN (2 ^ qs.length) fun a => tkI t1 a (a ^^^ m) * (nth x a * nth y (a ^^^ m) * facZ qs a (a ^^^ m) qs.length) * (tkI t2 m (m ^^^ k) * (nth z (m ^^^ k) * facZ qs m (m ^^^ k) qs.length))) % p := fun m hm => by
    rw [prodT_nth hp hm, sumN_mulr, Int.mul_assoc (_ % p), Int.mul_left_comm]
    exact mul_emod_congr (Int.emod_emod _ _) rfl
  have e2 : ∀ a, a < 2 ^ qs.length → (tkI t3 a (a ^^^ k) * (nth x a * nth (prodL p qs t4 y z) (a ^^^ k) * facZ qs a (a ^^^ k) qs.length)) % p =
      (sumN (2 ^ qs.length) fun m => tkI t1 a (a ^^^ m) * (nth x a * nth y (a ^^^ m) * facZ qs a (a ^^^ m) qs.length) * (tkI t2 m (m ^^^ k) * (nth z (m ^^^ k) * facZ qs m (m ^^^ k) qs.length))) % p := fun a ha => by
    rw [prodT_nth hp (Nat.xor_lt_two_pow ha hk), ← sumN_xor hd ha]
    have : (tkI t3 a (a ^^^ k) * (nth x a * ((sumN (2 ^ qs.length) fun m => tkI t4 (a ^^^ m) (a ^^^ m ^^^ (a ^^^ k)) * (nth y (a ^^^ m) * nth z (a ^^^ m ^^^ (a ^^^ k)) * facZ qs (a ^^^ m) (a ^^^ m ^^^ (a ^^^ k)) qs.length)) % p) * facZ qs a (a ^^^ k) qs.length)) % p =
        (tkI t3 a (a ^^^ k) * nth x a * (sumN (2 ^ qs.length) fun m => tkI t4 (a ^^^ m) (a ^^^ m ^^^ (a ^^^ k)) * (nth y (a ^^^ m) * nth z (a ^^^ m ^^^ (a ^^^ k)) * facZ qs (a ^^^ m) (a ^^^ m ^^^ (a ^^^ k)) qs.length)) * facZ qs a (a ^^^ k) qs.length) % p := by
      rw [← Int.mul_assoc, ← Int.mul_assoc]
      exact mul_emod_congr (mul_emod_congr rfl (Int.emod_emod _ _)) rfl
    rw [this, ← sumN_mul, ← sumN_mulr]
    congr 1
    refine sumN_congr fun m hm => ?_
    rw [xor_cancel]
    have ham := Nat.xor_lt_two_pow ha hm
    have hmk := Nat.xor_lt_two_pow hm hk
    have hc := facZ_cocycle (qs := qs) (a := a) (b := a ^^^ m) (c := m ^^^ k) (by omega) (Nat.lt_of_lt_of_le ham hN) qs.length hd
    have hT' := hT a ha (a ^^^ m) ham (m ^^^ k) hmk
    have x1 : a ^^^ (a ^^^ m) = m := by rw [← Nat.xor_assoc, Nat.xor_self, Nat.zero_xor]
    have x2 : a ^^^ m ^^^ (m ^^^ k) = a ^^^ k := by rw [Nat.xor_assoc, ← Nat.xor_assoc m m k, Nat.xor_self, Nat.zero_xor]
    rw [x1, x2] at hc hT'
    rw [show tkI t1 a (a ^^^ m) * (nth x a * nth y (a ^^^ m) * facZ qs a (a ^^^ m) qs.length) * (tkI t2 m (m ^^^ k) * (nth z (m ^^^ k) * facZ qs m (m ^^^ k) qs.length)) = nth x a * nth y (a ^^^ m) * nth z (m ^^^ k) * ((facZ qs a (a ^^^ m) qs.length * facZ qs m (m ^^^ k) qs.length) * (tkI t1 a (a ^^^ m) * tkI t2 m (m ^^^ k))) by ac_rfl, hc, hT']
    ac_rfl
  rw [sumN_emod e1, sumN_emod e2, sumN_swap]

theorem bit_all {a b : Nat} (ha : a < 64) (hb : b < 64) (h : ∀ i, i < 6 → a.testBit i = b.testBit i) : a = b := by
  apply Nat.eq_of_testBit_eq
  intro i
  by_cases hi : i < 6
  · exact h i hi
  · rw [Nat.testBit_lt_two_pow (Nat.lt_of_lt_of_le ha (by exact Nat.pow_le_pow_right (by omega) (show 6 ≤ i by omega) : 2 ^ 6 ≤ 2 ^ i)), Nat.testBit_lt_two_pow (Nat.lt_of_lt_of_le hb (by exact Nat.pow_le_pow_right (by omega) (show 6 ≤ i by omega) : 2 ^ 6 ≤ 2 ^ i))]
theorem tkW_iff {a b : Nat} : tkW a b = true ↔ ∀ i, (a.testBit i && b.testBit i) = false := by
  unfold tkW
  rw [beq_iff_eq]
  constructor
  · intro h i
    rw [← Nat.testBit_and, h, Nat.zero_testBit]
  · intro h
    apply Nat.eq_of_testBit_eq
    intro i
    rw [Nat.testBit_and, h i, Nat.zero_testBit]
theorem tkL_iff {a b : Nat} : tkL a b = true ↔ ∀ i, a.testBit i = true → b.testBit i = true := by
  unfold tkL
  rw [beq_iff_eq]
  constructor
  · intro h i hi
    have : (a &&& b).testBit i = true := by rw [h]; exact hi
    rw [Nat.testBit_and] at this
    simp_all
  · intro h
    apply Nat.eq_of_testBit_eq
    intro i
    rw [Nat.testBit_and]
    cases ha : a.testBit i
    · rfl
    · rw [h i ha]; rfl
theorem wedge_tk (a b c : Nat) : (tkW a b && tkW (a ^^^ b) c) = (tkW b c && tkW a (b ^^^ c)) := by
  rw [Bool.eq_iff_iff]
  simp only [Bool.and_eq_true, tkW_iff, Nat.testBit_xor]
  constructor
  · rintro ⟨h1, h2⟩
    refine ⟨fun i => ?_, fun i => ?_⟩ <;> (have h3 := h1 i; have h4 := h2 i; revert h3 h4; cases a.testBit i <;> cases b.testBit i <;> cases c.testBit i <;> simp)
  · rintro ⟨h1, h2⟩
    refine ⟨fun i => ?_, fun i => ?_⟩ <;> (have h3 := h1 i; have h4 := h2 i; revert h3 h4; cases a.testBit i <;> cases b.testBit i <;> cases c.testBit i <;> simp)
/-- The wedge product is associative. -/
theorem wedge_assoc {p : Int} {qs x y z : List Int} (hp : 1 ≤ p) (hd : qs.length ≤ 6) : prodL p qs tkW (prodL p qs tkW x y) z = prodL p qs tkW x (prodL p qs tkW y z) :=
  prodT_assoc hp hd fun a _ b _ c _ => wedge_tk a b c
theorem left_tk (a b c : Nat) : (tkW a b && tkL (a ^^^ b) c) = (tkL b c && tkL a (b ^^^ c)) := by
  rw [Bool.eq_iff_iff]
  simp only [Bool.and_eq_true, tkW_iff, tkL_iff, Nat.testBit_xor]
  constructor
  · rintro ⟨h1, h2⟩
    refine ⟨fun i => ?_, fun i => ?_⟩ <;> (have h3 := h1 i; have h4 := h2 i; revert h3 h4; cases a.testBit i <;> cases b.testBit i <;> cases c.testBit i <;> simp)
  · rintro ⟨h1, h2⟩
    refine ⟨fun i => ?_, fun i => ?_⟩ <;> (have h3 := h1 i; have h4 := h2 i; revert h3 h4; cases a.testBit i <;> cases b.testBit i <;> cases c.testBit i <;> simp)
/-- The left contraction of a wedge product. -/
theorem left_wedge {p : Int} {qs x y z : List Int} (hp : 1 ≤ p) (hd : qs.length ≤ 6) : prodL p qs tkL (prodL p qs tkW x y) z = prodL p qs tkL x (prodL p qs tkL y z) :=
  prodT_assoc hp hd fun a _ b _ c _ => left_tk a b c

/-! ### Sums and multiples -/
theorem prod_plus_right {p k : Int} {qs x y z : List Int} {tk : Nat → Nat → Bool} (hp : 1 ≤ p) : prodL p qs tk x (plusL p y z k (2 ^ qs.length)) = plusL p (prodL p qs tk x y) (prodL p qs tk x z) k (2 ^ qs.length) := by
  refine ext_nth (by rw [(prod_good hp).1, plusL_len]) fun i hi => ?_
  rw [(prod_good hp).1] at hi
  rw [plusL_nth hi, prodT_nth hp hi, plusN, prodT_nth hp hi, prodT_nth hp hi, Int.emod_add_emod, Int.add_comm (sumN _ _), ← Int.emod_add_emod, Int.mul_emod, Int.emod_emod, ← Int.mul_emod, Int.emod_add_emod, ← sumN_mul, ← sumN_add]
  refine sumN_emod fun a ha => ?_
  rw [plusL_nth (Nat.xor_lt_two_pow ha hi), plusN]
  have : ∀ u v f s : Int, (s * (u * ((v) % p) * f)) % p = (s * (u * v * f)) % p := fun u v f s => mul_emod_congr rfl (mul_emod_congr (mul_emod_congr rfl (Int.emod_emod _ _)) rfl)
  rw [this]
  congr 1
  rw [Int.mul_add, Int.add_mul, Int.mul_add, Int.add_comm]
  congr 1
  ac_rfl
theorem prod_plus_left {p k : Int} {qs x y z : List Int} {tk : Nat → Nat → Bool} (hp : 1 ≤ p) : prodL p qs tk (plusL p x y k (2 ^ qs.length)) z = plusL p (prodL p qs tk x z) (prodL p qs tk y z) k (2 ^ qs.length) := by
  refine ext_nth (by rw [(prod_good hp).1, plusL_len]) fun i hi => ?_
  rw [(prod_good hp).1] at hi
  rw [plusL_nth hi, prodT_nth hp hi, plusN, prodT_nth hp hi, prodT_nth hp hi, Int.emod_add_emod, Int.add_comm (sumN _ _), ← Int.emod_add_emod, Int.mul_emod, Int.emod_emod, ← Int.mul_emod, Int.emod_add_emod, ← sumN_mul, ← sumN_add]
  refine sumN_emod fun a ha => ?_
  rw [plusL_nth ha, plusN]
  have : ∀ u v f s : Int, (s * (v % p * u * f)) % p = (s * (v * u * f)) % p := fun u v f s => mul_emod_congr rfl (mul_emod_congr (mul_emod_congr (Int.emod_emod _ _) rfl) rfl)
  rw [this]
  congr 1
  rw [Int.add_mul, Int.add_mul, Int.mul_add, Int.add_comm]
  congr 1
  ac_rfl

end Go.Proofs.Ytnbhlabcecdbgaa

/-
  Duals; the listed function DualOf.
  No condition.
-/
namespace Go.Proofs.Ytnbhlabcecdbgaa
set_option maxRecDepth 100000
open Go.RowKit





end Go.Proofs.Ytnbhlabcecdbgaa
