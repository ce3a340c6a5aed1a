/-
  Contracts and plain laws, part 6: Src, Draw, Top5B, Mat, Basis, Scale, BasisS, Ideal, Matrix, IsoP, ReflP.
  No condition.
-/
import Derived.Test.YtcocbainookkcaaPart1
import Derived.Test.YtcocbainookkcaaPart5
import Derived.Laws.Bits64b
import Derived.Test.YtcocbainookkcaaPart0
import Derived.Test.YtcocbainookkcaaPart2
import Derived.Test.YtcocbainookkcaaPart3
import Derived.Test.YtcocbainookkcaaPart4
import Derived.RegionTactic
import Derived.ChangeAlike
/-
  Sources of drawn numbers: what is known of them in memory, and what a draw leaves of the world.
  No condition.
-/
namespace Go.Proofs.Ytcocbainookkcaa
set_option maxRecDepth 100000
open Go.RowKit

/-- A source: its block, and the slice of its code. -/
structure SrcP where
  g : Nat
  ca : Option Addr
  n : Nat
  cap : Nat

/-- n bytes that can be read, apart from a block. -/
def RdB (w : World) (g : Nat) (ca : Option Addr) (n : Nat) : Prop :=
  ∀ i, i < n → ∃ b off, ∃ z : Int, ca = some ⟨b, off, none⟩ ∧ b ≠ g ∧ w.cell? ⟨b, off + i, none⟩ = some (.int .u8 z) ∧ 0 ≤ z ∧ z ≤ 255

structure Src (S : SrcP) (w : World) : Prop where
  len : S.n ≤ 4096
  c0 : w.cell? ⟨S.g, 0, none⟩ = some (.slice S.ca S.n S.cap)
  c1 : ∃ t : Nat, t ≤ S.n ∧ w.cell? ⟨S.g, 1, none⟩ = some (.int .i64 t)
  c2 : ∃ h : Int, w.cell? ⟨S.g, 2, none⟩ = some (.int .u64 h)
  fz : ∀ j, w.frozen? ⟨S.g, j, none⟩ = false
  rd : RdB w S.g S.ca S.n

theorem Src.lt {S : SrcP} {w : World} (h : Src S w) : S.g < w.heap.size := lt_of_cell h.c0

/-- All blocks but the source's are as they were, and the source is one still. -/
structure Drw (S : SrcP) (w w' : World) : Prop where
  os : w'.os = w.os
  tape : w'.tape = w.tape
  output : w'.output = w.output
  size : w.heap.size ≤ w'.heap.size
  block : ∀ k, k < w.heap.size → k ≠ S.g → w'.heap[k]? = w.heap[k]?
  src : Src S w → Src S w'

theorem Drw.refl (S : SrcP) (w : World) : Drw S w w := ⟨rfl, rfl, rfl, Nat.le_refl _, fun _ _ _ => rfl, id⟩
theorem Drw.trans {S : SrcP} {a b c : World} (h : Drw S a b) (k : Drw S b c) : Drw S a c :=
  ⟨k.os.trans h.os, k.tape.trans h.tape, k.output.trans h.output, Nat.le_trans h.size k.size, fun i hi hg => (k.block i (Nat.lt_of_lt_of_le hi h.size) hg).trans (h.block i hi hg), fun hs => k.src (h.src hs)⟩

theorem RdB.block {w w' : World} {g n : Nat} {ca : Option Addr} (h : RdB w g ca n) (hb : ∀ k, k < w.heap.size → k ≠ g → w'.heap[k]? = w.heap[k]?) : RdB w' g ca n := fun i hi => by
  obtain ⟨b, off, z, h1, h2, h3, h4⟩ := h i hi
  exact ⟨b, off, z, h1, h2, by rw [World.cell?_of_block (w := w) (hb b (lt_of_cell h3) h2)]; exact h3, h4⟩

/-- What lies below the first world's size is left alone afterwards. -/
theorem Drw.below {S : SrcP} {W w w' : World} (h : Drw S W w) (k : Below W.heap.size w w') : Drw S W w' := by
  refine ⟨k.os.trans h.os, k.tape.trans h.tape, k.output.trans h.output, Nat.le_trans h.size k.size, fun i hi hg => (k.block i hi).trans (h.block i hi hg), fun hs => ?_⟩
  have hw := h.src hs
  have hg := k.block S.g hs.lt
  refine ⟨hw.len, ?_, ?_, ?_, fun j => ?_, fun i hi => ?_⟩
  · rw [World.cell?_of_block (w := w) hg]; exact hw.c0
  · obtain ⟨t, ht, hc⟩ := hw.c1
    exact ⟨t, ht, by rw [World.cell?_of_block (w := w) hg]; exact hc⟩
  · obtain ⟨t, hc⟩ := hw.c2
    exact ⟨t, by rw [World.cell?_of_block (w := w) hg]; exact hc⟩
  · rw [World.frozen?_of_block (w := w) hg]; exact hw.fz j
  · obtain ⟨b, off, z, h1, h2, h3, h4⟩ := hs.rd i hi
    have hb := lt_of_cell h3
    exact ⟨b, off, z, h1, h2, by rw [World.cell?_of_block (w := w) (k.block b hb), World.cell?_of_block (w := W) (h.block b hb h2)]; exact h3, h4⟩

theorem Drw.of_ext {S : SrcP} {w w' : World} (h : Ext w w') : Drw S w w' := (Drw.refl S w).below h
theorem Drw.ext {S : SrcP} {W w w' : World} (h : Drw S W w) (k : Ext w w') : Drw S W w' := h.below (Below.mono k h.size)
theorem Drw.alloc {S : SrcP} {W w : World} (h : Drw S W w) (o : Obj) : Drw S W (w.alloc o) := h.ext (ext_alloc _ _)
theorem Drw.drew {S : SrcP} {W w : World} (h : Drw S W w) : Drw S W w.drew := h.ext (ext_drew _)
theorem Drw.setCell {S : SrcP} {W w : World} (h : Drw S W w) {p : Addr} (hp : W.heap.size ≤ p.block) (u : Value) : Drw S W (w.setCell p u) := h.below ((Below.refl _ _).setCell hp u)
theorem Drw.grown {S : SrcP} {W w w' : World} {row : Option Nat} (h : Drw S W w) (hg : w.grownBy w' row) (hr : ∀ k, row = some k → W.heap.size ≤ k) : Drw S W w' := h.below ((Below.refl _ _).grown hg h.size hr)
theorem Drw.cell {S : SrcP} {w w' : World} (h : Drw S w w') {p : Addr} {v : Value} (hp : p.block ≠ S.g) (hc : w.cell? p = some v) : w'.cell? p = some v := by
  rw [World.cell?_of_block (w := w) (h.block p.block (lt_of_cell hc) hp)]; exact hc
theorem Drw.frz {S : SrcP} {w w' : World} (h : Drw S w w') {p : Addr} (hl : p.block < w.heap.size) (hp : p.block ≠ S.g) : w'.frozen? p = w.frozen? p :=
  World.frozen?_of_block (w := w) (h.block p.block hl hp)
theorem Drw.own {S : SrcP} {B : Nat} {w w' : World} {a : Option Addr} {n cap : Nat} {xs : List Int} (h : Drw S w w') (ho : OwnC B w a n cap xs) (hB : S.g < B) : OwnC B w' a n cap xs :=
  ho.keep fun g hg => by
    have := ho.base_of g hg
    exact h.block g this.2 (by omega)
/-- A draw behind the making of the source. -/
theorem Drw.toExt {S : SrcP} {W w w' : World} (h : Drw S w w') (he : Ext W w) (hg : W.heap.size ≤ S.g) : Ext W w' :=
  he.trans' ⟨h.os, h.tape, h.output, h.size, fun k hk => h.block k (Nat.lt_of_lt_of_le hk he.size) (by omega)⟩

/-- As a relation for walks. -/
def Drw.rel (S : SrcP) : Chg.Rel := ⟨Drw S, Drw.refl S, Drw.trans⟩

def NextR (n r : Int) : Prop := (n < 1 → r = 0) ∧ (1 ≤ n → 0 ≤ r ∧ r < n)

theorem src_set {S : SrcP} {w : World} (h : Src S w) {j : Nat} {v : Value} (h0 : j = 1 → ∃ t : Nat, t ≤ S.n ∧ v = .int .i64 t) (h1 : j = 2 → ∃ x, v = .int .u64 x) (hj : j = 1 ∨ j = 2) : Drw S w (w.setCell ⟨S.g, j, none⟩ v) := by
  have hb : ∀ k, k < w.heap.size → k ≠ S.g → (w.setCell ⟨S.g, j, none⟩ v).heap[k]? = w.heap[k]? := fun k _ hk => Below.heap_setCell _ _ _ _ hk
  refine ⟨rfl, rfl, rfl, by simp [World.setCell], hb, fun hs => ?_⟩
  obtain ⟨t, ht, c1⟩ := h.c1
  obtain ⟨x, c2⟩ := h.c2
  have c0 := h.c0
  rcases hj with rfl | rfl
  · obtain ⟨t', ht', rfl⟩ := h0 rfl
    exact ⟨h.len, by go_simp, ⟨t', ht', by go_simp⟩, ⟨x, by go_simp⟩, fun i => by have := h.fz i; go_simp, h.rd.block hb⟩
  · obtain ⟨x', rfl⟩ := h1 rfl
    exact ⟨h.len, by go_simp, ⟨t, ht, by go_simp⟩, ⟨x', by go_simp⟩, fun i => by have := h.fz i; go_simp, h.rd.block hb⟩

theorem src_h {S : SrcP} {w : World} (h : Src S w) (x : Int) : Drw S w (w.setCell ⟨S.g, 2, none⟩ (.int .u64 x)) := src_set h (fun h => by omega) (fun _ => ⟨x, rfl⟩) (.inr rfl)
theorem u64_bd (E : Int) : 0 ≤ IntKind.u64.wrap E ∧ IntKind.u64.wrap E ≤ 18446744073709551615 := by
  simp [IntKind.wrap, IntKind.bits, IntKind.signed]; omega
theorem draw_bd (E : Int) : ∃ x : Int, wrap64 (bits BinOp.and IntKind.u64 (IntKind.u64.wrap E / 8589934592) 16777215) = x ∧ 0 ≤ x ∧ x ≤ 16777215 := by
  refine ⟨_, rfl, ?_⟩
  have h := u64_bd E
  obtain ⟨A, hA⟩ : ∃ A : Nat, IntKind.u64.wrap E / 8589934592 = (A : Int) := ⟨(IntKind.u64.wrap E / 8589934592).toNat, by omega⟩
  rw [hA, show (16777215 : Int) = ((16777215 : Nat) : Int) from rfl, bits_and_u64_nat _ _ (by omega) (by omega)]
  have h2 : A &&& 16777215 ≤ 16777215 := Nat.and_le_right
  have h3 : wrap64 ((A &&& 16777215 : Nat) : Int) = ((A &&& 16777215 : Nat) : Int) := by unfold wrap64; omega
  rw [h3]
  omega
theorem next_of {n x : Int} (h : ¬ n < 1) (_h0 : 0 ≤ x) : NextR n (x % n) := ⟨fun h' => absurd h' h, fun _ => ⟨Int.emod_nonneg _ (by omega), Int.emod_lt_of_pos _ (by omega)⟩⟩

set_option maxHeartbeats 1000000 in
theorem s_next (S : SrcP) (n : Int) (w : World) (hS : Src S w) (hn : n ≤ 9223372036854775807) :
    Calls Try.prog 69 #[.pointer (some ⟨S.g, 0, none⟩), .int .i64 n] w fun e w' => ∃ r, e = .returned (.int .i64 r) ∧ NextR n r ∧ Drw S w w' := by
  by_cases h1 : n < 1
  · go_enter Try.func69, Try.ntmps69
    go_wp2_with (fail)
    go_ret
    exact ⟨0, rfl, ⟨fun _ => rfl, fun h => by omega⟩, Drw.refl _ _⟩
  · obtain ⟨t, ht, c1⟩ := hS.c1
    obtain ⟨h, c2⟩ := hS.c2
    have c0 := hS.c0
    have f2 := hS.fz 2
    obtain ⟨x, hx, hx0, hx1⟩ := draw_bd (IntKind.u64.wrap (h * 6364136223846793005) + 1442695040888963407)
    obtain ⟨V, hV⟩ : ∃ V, V = Value.int IntKind.u64 (IntKind.u64.wrap (IntKind.u64.wrap (h * 6364136223846793005) + 1442695040888963407)) := ⟨_, rfl⟩
    obtain ⟨W, hW⟩ : ∃ W, W = w.setCell ⟨S.g, 2, none⟩ V := ⟨_, rfl⟩
    have D1 : Drw S w W := by rw [hW]; exact src_set hS (fun h => by omega) (fun _ => ⟨_, hV⟩) (.inr rfl)
    have e0 : W.cell? ⟨S.g, 0, none⟩ = some (.slice S.ca S.n S.cap) := by rw [hW]; go_simp
    have e1 : W.cell? ⟨S.g, 1, none⟩ = some (.int .i64 t) := by rw [hW]; go_simp
    have hS1 := D1.src hS
    have HS := Lib.hid hS1
    have HD := Lib.hid D1
    have HX := Lib.hid hx
    have HW := Lib.hid (by rw [hW, hV] : W = w.setCell ⟨S.g, 2, none⟩ (Value.int IntKind.u64 (IntKind.u64.wrap (IntKind.u64.wrap (h * 6364136223846793005) + 1442695040888963407))))
    have f1 := hS1.fz 1
    have hl := hS1.len
    clear hS hx D1 hS1 hW hV
    by_cases h2 : t < S.n
    · obtain ⟨b, off, z, hca, hbg, hcb, hz0, hz1⟩ := HS.out.rd t h2
      have E0 := Lib.hid ((ext_drew W).cell e0)
      have E1 := Lib.hid ((ext_drew W).cell e1)
      have EB := Lib.hid ((ext_drew W).cell hcb)
      have hnn : (n == 0) = false := by simp; omega
      rw [hca] at E0
      have HR := Lib.hid (next_of (n := n) (x := x + z) h1 (by omega))
      go_enter Try.func69, Try.ntmps69
      go_wp2_with (fail)
      rw [HX.out, ← HW.out]
      clear c0 c1 c2 f2 e0 hcb
      refine wp_region_lex [] (by kernel_rfl) (by kernel_rfl) ?_
      repeat' first | (refine LexW.pure (v := ?_) rfl rfl (fun w1 he => ?_) ?_; rotate_left; ( have x0 := he.cell E0.out; have x1 := he.cell E1.out; go_simp; rfl); simp only [Act.put, List.setIfInBounds_toArray, List.set_cons_zero, List.set_cons_succ])
      refine LexW.nil (fun w2 he hk => ?_)
      have X2 := Lib.hid ((ext_drew W).trans he)
      have F1 := Lib.hid ((ext_drew w2).cell (he.cell E0.out))
      have F2 := Lib.hid ((ext_drew w2).cell (he.cell E1.out))
      have F3 := Lib.hid ((ext_drew w2).cell (he.cell EB.out))
      clear he hk
      go_wp2_with (fail)
      refine wp_region_lex [] (by kernel_rfl) (by kernel_rfl) ?_
      repeat' first | (refine LexW.pure (v := ?_) rfl rfl (fun w1 he => ?_) ?_; rotate_left; ( have x0 := he.cell F1.out; have x1 := he.cell F2.out; have x2 := he.cell F3.out; go_simp; rfl); simp only [Act.put, List.setIfInBounds_toArray, List.set_cons_zero, List.set_cons_succ])
      refine LexW.nil (fun w3 he hk => ?_)
      have X3 := Lib.hid (X2.out.trans ((ext_drew w2).trans he))
      have y1 := he.cell F2.out
      have fz1 : w3.frozen? ⟨S.g, 1, none⟩ = false := by rw [X3.out.frz _ _ HS.out.lt]; exact f1
      clear he hk
      go_wp2_with (fail)
      go_ret
      refine ⟨_, rfl, ?_, ?_⟩
      · skip
        exact HR.out
      · have hS3 := (Drw.of_ext X3.out).src HS.out
        exact (HD.out.ext X3.out).trans (src_set hS3 (fun _ => ⟨t + 1, by omega, by go_num⟩) (fun h => by omega) (.inl rfl))
    · have E0 := Lib.hid ((ext_drew W).cell e0)
      have E1 := Lib.hid ((ext_drew W).cell e1)
      have hnn : (n == 0) = false := by simp; omega
      have HR := Lib.hid (next_of (n := n) (x := x) h1 (by omega))
      go_enter Try.func69, Try.ntmps69
      go_wp2_with (fail)
      rw [HX.out, ← HW.out]
      clear c0 c1 c2 f2 e0
      refine wp_region_lex [] (by kernel_rfl) (by kernel_rfl) ?_
      repeat' first | (refine LexW.pure (v := ?_) rfl rfl (fun w1 he => ?_) ?_; rotate_left; ( have x0 := he.cell E0.out; have x1 := he.cell E1.out; go_simp; rfl); simp only [Act.put, List.setIfInBounds_toArray, List.set_cons_zero, List.set_cons_succ])
      refine LexW.nil (fun w2 he hk => ?_)
      have X2 := Lib.hid ((ext_drew W).trans he)
      clear he hk
      go_wp2_with (fail)
      go_ret
      exact ⟨_, rfl, HR.out, HD.out.ext X2.out⟩
set_option maxHeartbeats 1000000 in
theorem l_below (S : SrcP) (n : Int) (w : World) (hS : Src S w) (hn : n ≤ 9223372036854775807) :
    Calls Try.prog 27 #[.pointer (some ⟨S.g, 0, none⟩), .int .i64 n] w fun e w' => ∃ r, e = .returned (.int .i64 r) ∧ NextR n r ∧ Drw S w w' := by
  by_cases h1 : n < 1
  · go_enter Try.func27, Try.ntmps27
    go_wp2_with (fail)
    go_ret
    exact ⟨0, rfl, ⟨fun _ => rfl, fun h => by omega⟩, Drw.refl _ _⟩
  · obtain ⟨t, ht, c1⟩ := hS.c1
    obtain ⟨h, c2⟩ := hS.c2
    have c0 := hS.c0
    have f2 := hS.fz 2
    obtain ⟨x, hx, hx0, hx1⟩ := draw_bd (IntKind.u64.wrap (h * 6364136223846793005) + 1442695040888963407)
    obtain ⟨V, hV⟩ : ∃ V, V = Value.int IntKind.u64 (IntKind.u64.wrap (IntKind.u64.wrap (h * 6364136223846793005) + 1442695040888963407)) := ⟨_, rfl⟩
    obtain ⟨W, hW⟩ : ∃ W, W = w.setCell ⟨S.g, 2, none⟩ V := ⟨_, rfl⟩
    have D1 : Drw S w W := by rw [hW]; exact src_set hS (fun h => by omega) (fun _ => ⟨_, hV⟩) (.inr rfl)
    have e0 : W.cell? ⟨S.g, 0, none⟩ = some (.slice S.ca S.n S.cap) := by rw [hW]; go_simp
    have e1 : W.cell? ⟨S.g, 1, none⟩ = some (.int .i64 t) := by rw [hW]; go_simp
    have hS1 := D1.src hS
    have HS := Lib.hid hS1
    have HD := Lib.hid D1
    have HX := Lib.hid hx
    have HW := Lib.hid (by rw [hW, hV] : W = w.setCell ⟨S.g, 2, none⟩ (Value.int IntKind.u64 (IntKind.u64.wrap (IntKind.u64.wrap (h * 6364136223846793005) + 1442695040888963407))))
    have f1 := hS1.fz 1
    have hl := hS1.len
    clear hS hx D1 hS1 hW hV
    by_cases h2 : t < S.n
    · obtain ⟨b, off, z, hca, hbg, hcb, hz0, hz1⟩ := HS.out.rd t h2
      have E0 := Lib.hid ((ext_drew W).cell e0)
      have E1 := Lib.hid ((ext_drew W).cell e1)
      have EB := Lib.hid ((ext_drew W).cell hcb)
      have hnn : (n == 0) = false := by simp; omega
      rw [hca] at E0
      have HR := Lib.hid (next_of (n := n) (x := x + z) h1 (by omega))
      go_enter Try.func27, Try.ntmps27
      go_wp2_with (fail)
      rw [HX.out, ← HW.out]
      clear c0 c1 c2 f2 e0 hcb
      refine wp_region_lex [] (by kernel_rfl) (by kernel_rfl) ?_
      repeat' first | (refine LexW.pure (v := ?_) rfl rfl (fun w1 he => ?_) ?_; rotate_left; ( have x0 := he.cell E0.out; have x1 := he.cell E1.out; go_simp; rfl); simp only [Act.put, List.setIfInBounds_toArray, List.set_cons_zero, List.set_cons_succ])
      refine LexW.nil (fun w2 he hk => ?_)
      have X2 := Lib.hid ((ext_drew W).trans he)
      have F1 := Lib.hid ((ext_drew w2).cell (he.cell E0.out))
      have F2 := Lib.hid ((ext_drew w2).cell (he.cell E1.out))
      have F3 := Lib.hid ((ext_drew w2).cell (he.cell EB.out))
      clear he hk
      go_wp2_with (fail)
      refine wp_region_lex [] (by kernel_rfl) (by kernel_rfl) ?_
      repeat' first | (refine LexW.pure (v := ?_) rfl rfl (fun w1 he => ?_) ?_; rotate_left; ( have x0 := he.cell F1.out; have x1 := he.cell F2.out; have x2 := he.cell F3.out; go_simp; rfl); simp only [Act.put, List.setIfInBounds_toArray, List.set_cons_zero, List.set_cons_succ])
      refine LexW.nil (fun w3 he hk => ?_)
      have X3 := Lib.hid (X2.out.trans ((ext_drew w2).trans he))
      have y1 := he.cell F2.out
      have fz1 : w3.frozen? ⟨S.g, 1, none⟩ = false := by rw [X3.out.frz _ _ HS.out.lt]; exact f1
      clear he hk
      go_wp2_with (fail)
      go_ret
      refine ⟨_, rfl, ?_, ?_⟩
      · skip
        exact HR.out
      · have hS3 := (Drw.of_ext X3.out).src HS.out
        exact (HD.out.ext X3.out).trans (src_set hS3 (fun _ => ⟨t + 1, by omega, by go_num⟩) (fun h => by omega) (.inl rfl))
    · have E0 := Lib.hid ((ext_drew W).cell e0)
      have E1 := Lib.hid ((ext_drew W).cell e1)
      have hnn : (n == 0) = false := by simp; omega
      have HR := Lib.hid (next_of (n := n) (x := x) h1 (by omega))
      go_enter Try.func27, Try.ntmps27
      go_wp2_with (fail)
      rw [HX.out, ← HW.out]
      clear c0 c1 c2 f2 e0
      refine wp_region_lex [] (by kernel_rfl) (by kernel_rfl) ?_
      repeat' first | (refine LexW.pure (v := ?_) rfl rfl (fun w1 he => ?_) ?_; rotate_left; ( have x0 := he.cell E0.out; have x1 := he.cell E1.out; go_simp; rfl); simp only [Act.put, List.setIfInBounds_toArray, List.set_cons_zero, List.set_cons_succ])
      refine LexW.nil (fun w2 he hk => ?_)
      have X2 := Lib.hid ((ext_drew W).trans he)
      clear he hk
      go_wp2_with (fail)
      go_ret
      exact ⟨_, rfl, HR.out, HD.out.ext X2.out⟩


/-- n bytes that can be read. -/
def RdY (w : World) (ca : Option Addr) (n : Nat) : Prop :=
  ∀ i, i < n → ∃ b off, ∃ z : Int, ca = some ⟨b, off, none⟩ ∧ w.cell? ⟨b, off + i, none⟩ = some (.int .u8 z) ∧ 0 ≤ z ∧ z ≤ 255
theorem RdY.ext {w w' : World} {ca : Option Addr} {n : Nat} (h : RdY w ca n) (he : Ext w w') : RdY w' ca n := fun i hi => by
  obtain ⟨b, off, z, h1, h2, h3⟩ := h i hi
  exact ⟨b, off, z, h1, he.cell h2, h3⟩

set_option maxHeartbeats 1000000 in
theorem s_from (ca : Option Addr) (n cap : Nat) (w : World) (hn : n ≤ 4096) (hb : RdY w ca n) :
    Calls Try.prog 66 #[.slice ca n cap] w fun e w' => ∃ g, e = .returned (.pointer (some ⟨g, 0, none⟩)) ∧ w.heap.size ≤ g ∧ Src ⟨g, ca, n, cap⟩ w' ∧ Ext w w' := by
  obtain ⟨g, hg⟩ : ∃ g, g = w.heap.size := ⟨_, rfl⟩
  have HG := Lib.hid hg
  have HB := Lib.hid hb
  clear hb
  go_enter Try.func66, Try.ntmps66
  go_wp2_with (fail)
  rw [← hg]
  go_loopw [4] (fun i wr => ∃ (k : Nat), k ≤ n ∧ i = .int .i64 k ∧ Src ⟨g, ca, n, cap⟩ wr ∧ Ext w wr) (fun i _ => n - (intOf i).toNat)
  case atStart =>
    refine ⟨0, Nat.zero_le _, rfl, ?_, ext_alloc _ _⟩
    refine ⟨hn, by rw [HG.out]; simp, ⟨0, Nat.zero_le _, by rw [HG.out]; simp⟩, ⟨_, by rw [HG.out]; simp; rfl⟩, fun j => by rw [HG.out]; simp, fun i hi => ?_⟩
    obtain ⟨b, off, z, h1, h2, h3⟩ := HB.out i hi
    exact ⟨b, off, z, h1, by have := lt_of_cell h2; have := HG.out; dsimp only at *; omega, (ext_alloc _ _).cell h2, h3⟩
  case round =>
    obtain ⟨k, hk, rfl, hS, hext⟩ := hrel
    have HS := Lib.hid hS
    have HE := Lib.hid hext
    clear hext hg
    by_cases hlt : k < n
    · obtain ⟨h, c2⟩ := hS.c2
      obtain ⟨b, off, z, rfl, hbg, hc, hz0, hz1⟩ := hS.rd k hlt
      have C2 := Lib.hid ((ext_drew _).cell c2)
      have CB := Lib.hid ((ext_drew _).cell hc)
      have hk6 : k < 4096 := by omega
      clear hS c2 hc
      go_wp2_with (fail)
      refine wp_region_lex_tail 15 [] (by kernel_rfl) (by kernel_rfl) ?_
      simp only [List.take, List.drop]
      repeat' first | (refine LexW.pure (v := ?_) rfl rfl (fun w1 he => ?_) ?_; rotate_left; ( have x0 := he.cell C2.out; have x1 := he.cell CB.out; go_simp; rfl); simp only [Act.put, List.setIfInBounds_toArray, List.set_cons_zero, List.set_cons_succ])
      refine LexW.nil (fun w2 he hkn => ?_)
      have X2 := Lib.hid ((ext_drew _).trans he)
      have hS2 := (Drw.of_ext X2.out).src HS.out
      have fz := hS2.fz 2
      have c2 := he.cell C2.out
      have HS2 := Lib.hid hS2
      clear he hkn hS2
      go_wp2_with (fail)
      go_roundw
      case rel =>
        exact ⟨k + 1, by omega, by go_num, (src_h HS2.out _).src HS2.out, (src_h HS2.out _).toExt (HE.out.trans X2.out) (by have := HG.out; dsimp only; omega)⟩
      case measure => simp [intOf]; omega
    · go_wp2_with (fail)
      go_ret
      exact ⟨g, rfl, by have := HG.out; omega, HS.out, HE.out⟩
set_option maxHeartbeats 1000000 in
theorem l_roll (ca : Option Addr) (n cap : Nat) (sd : Int) (w : World) (hn : n ≤ 4096) (hb : RdY w ca n) :
    Calls Try.prog 26 #[.slice ca n cap, .int .u64 sd] w fun e w' => ∃ g, e = .returned (.pointer (some ⟨g, 0, none⟩)) ∧ w.heap.size ≤ g ∧ Src ⟨g, ca, n, cap⟩ w' ∧ Ext w w' := by
  obtain ⟨g, hg⟩ : ∃ g, g = w.heap.size := ⟨_, rfl⟩
  have HG := Lib.hid hg
  have HB := Lib.hid hb
  clear hb
  go_enter Try.func26, Try.ntmps26
  go_wp2_with (fail)
  rw [← hg]
  go_loopw [6] (fun i wr => ∃ (k : Nat), k ≤ n ∧ i = .int .i64 k ∧ Src ⟨g, ca, n, cap⟩ wr ∧ Ext w wr) (fun i _ => n - (intOf i).toNat)
  case atStart =>
    refine ⟨0, Nat.zero_le _, rfl, ?_, ext_alloc _ _⟩
    refine ⟨hn, by rw [HG.out]; simp, ⟨0, Nat.zero_le _, by rw [HG.out]; simp⟩, ⟨_, by rw [HG.out]; simp; rfl⟩, fun j => by rw [HG.out]; simp, fun i hi => ?_⟩
    obtain ⟨b, off, z, h1, h2, h3⟩ := HB.out i hi
    exact ⟨b, off, z, h1, by have := lt_of_cell h2; have := HG.out; dsimp only at *; omega, (ext_alloc _ _).cell h2, h3⟩
  case round =>
    obtain ⟨k, hk, rfl, hS, hext⟩ := hrel
    have HS := Lib.hid hS
    have HE := Lib.hid hext
    clear hext hg
    by_cases hlt : k < n
    · obtain ⟨h, c2⟩ := hS.c2
      obtain ⟨b, off, z, rfl, hbg, hc, hz0, hz1⟩ := hS.rd k hlt
      have C2 := Lib.hid ((ext_drew _).cell c2)
      have CB := Lib.hid ((ext_drew _).cell hc)
      have hk6 : k < 4096 := by omega
      clear hS c2 hc
      go_wp2_with (fail)
      refine wp_region_lex_tail 15 [] (by kernel_rfl) (by kernel_rfl) ?_
      simp only [List.take, List.drop]
      repeat' first | (refine LexW.pure (v := ?_) rfl rfl (fun w1 he => ?_) ?_; rotate_left; ( have x0 := he.cell C2.out; have x1 := he.cell CB.out; go_simp; rfl); simp only [Act.put, List.setIfInBounds_toArray, List.set_cons_zero, List.set_cons_succ])
      refine LexW.nil (fun w2 he hkn => ?_)
      have X2 := Lib.hid ((ext_drew _).trans he)
      have hS2 := (Drw.of_ext X2.out).src HS.out
      have fz := hS2.fz 2
      have c2 := he.cell C2.out
      have HS2 := Lib.hid hS2
      clear he hkn hS2
      go_wp2_with (fail)
      go_roundw
      case rel =>
        exact ⟨k + 1, by omega, by go_num, (src_h HS2.out _).src HS2.out, (src_h HS2.out _).toExt (HE.out.trans X2.out) (by have := HG.out; dsimp only; omega)⟩
      case measure => simp [intOf]; omega
    · go_wp2_with (fail)
      go_ret
      exact ⟨g, rfl, by have := HG.out; omega, HS.out, HE.out⟩
end Go.Proofs.Ytcocbainookkcaa

/-
  Draws of numbers, lists and spaces: what they leave.
  No condition.
-/
namespace Go.Proofs.Ytcocbainookkcaa
set_option maxRecDepth 100000
open Go.RowKit

/-- The cells of a row that is written out. -/
theorem rdC_lit (w : World) (T : TypeId) (xs : List Int) : RdC (w.alloc (.cells (xs.map (.int .i64)).toArray T)) (some ⟨w.heap.size, 0, none⟩) xs.length xs := by
  refine ⟨rfl, fun i hi => ⟨w.heap.size, 0, rfl, ?_⟩⟩
  simp [hi, nth_eq hi]

theorem nth_in {xs : List Int} {i : Nat} (h : i < xs.length) : nth xs i ∈ xs := nth_mem h

set_option maxHeartbeats 400000 in
theorem s_pick (S : SrcP) (b m cap : Nat) (xs : List Int) (w : World) (hS : Src S w) (hm : 0 < m) (hm2 : m ≤ 1000) (hx : RdC w (some ⟨b, 0, none⟩) m xs) (hb : b ≠ S.g) :
    Calls Try.prog 110 #[.pointer (some ⟨S.g, 0, none⟩), .slice (some ⟨b, 0, none⟩) m cap] w fun e w' => ∃ r, e = .returned (.int .i64 r) ∧ r ∈ xs ∧ Drw S w w' := by
  have HX := Lib.hid hx
  clear hx
  go_enter Try.func110, Try.ntmps110
  have arm : ∀ r : Int, NextR m r → ∃ k : Nat, r = (k : Int) ∧ k < m ∧ w.cell? ⟨b, k, none⟩ = some (.int .i64 (nth xs k)) := by
    intro r hr
    have hr1 := hr.2 (by omega)
    refine ⟨r.toNat, by omega, by omega, ?_⟩
    obtain ⟨b', o', hab, hc⟩ := HX.out.2 r.toNat (by omega)
    simp only [Option.some.injEq, Addr.mk.injEq] at hab
    obtain ⟨rfl, rfl, _⟩ := hab
    simpa using hc
  have hm0 : (m : Int) ≤ 9223372036854775807 := by omega
  go_wp2_with (go_at_call 69; refine (s_next S m _ hS hm0).mono ?_; rintro e w1 ⟨r, rfl, hr, g1⟩; obtain ⟨k, rfl, hk, hc⟩ := arm r hr; have hc1 := g1.cell (p := ⟨b, k, none⟩) hb hc)
  go_ret
  exact ⟨_, rfl, nth_mem (by rw [HX.out.1]; exact hk), g1⟩

set_option maxHeartbeats 400000 in
theorem s_drawPrime (S : SrcP) (w : World) (hS : Src S w) :
    Calls Try.prog 140 #[.pointer (some ⟨S.g, 0, none⟩)] w fun e w' => ∃ p, e = .returned (.int .i64 p) ∧ primeB p = true ∧ 3 ≤ p ∧ p ≤ 13 ∧ Drw S w w' := by
  have hlt := hS.lt
  go_enter Try.func140, Try.ntmps140
  go_wp2_with (go_at_call 110; refine Calls.mono (s_pick S _ _ _ _ _ ((Drw.of_ext (ext_alloc _ _)).src hS) (by omega) (by omega) (rdC_lit w _ [3, 5, 7, 11, 13, 3, 5, 7]) (Nat.ne_of_gt hlt)) ?_; rintro e w1 ⟨r, rfl, hr, g1⟩)
  go_ret
  have hp : primeB r = true ∧ 3 ≤ r ∧ r ≤ 13 := by
    simp only [List.mem_cons, List.not_mem_nil, or_false] at hr
    rcases hr with rfl | rfl | rfl | rfl | rfl | rfl | rfl | rfl <;> decide +kernel
  exact ⟨r, rfl, hp.1, hp.2.1, hp.2.2, (Drw.of_ext (ext_alloc _ _)).trans g1⟩

/-- A struct of a prime and a slice in a block. -/
structure SpAt (w : World) (O : Nat) (p : Int) (v : Value) : Prop where
  c0 : w.cell? ⟨O, 0, none⟩ = some (.int .i64 p)
  c1 : w.cell? ⟨O, 1, none⟩ = some v
  f0 : w.frozen? ⟨O, 0, none⟩ = false
  f1 : w.frozen? ⟨O, 1, none⟩ = false
theorem SpAt.block {w w' : World} {O : Nat} {p : Int} {v : Value} (h : SpAt w O p v) (hb : w'.heap[O]? = w.heap[O]?) : SpAt w' O p v :=
  ⟨by rw [World.cell?_of_block (w := w) hb]; exact h.c0, by rw [World.cell?_of_block (w := w) hb]; exact h.c1, by rw [World.frozen?_of_block (w := w) hb]; exact h.f0, by rw [World.frozen?_of_block (w := w) hb]; exact h.f1⟩
theorem SpAt.lt {w : World} {O : Nat} {p : Int} {v : Value} (h : SpAt w O p v) : O < w.heap.size := lt_of_cell h.c0
theorem SpAt.below {w w' : World} {O B : Nat} {p : Int} {v : Value} (h : SpAt w O p v) (hb : Below B w w') (hO : O < B) : SpAt w' O p v := h.block (hb.block O hO)
theorem SpAt.ext {w w' : World} {O : Nat} {p : Int} {v : Value} (h : SpAt w O p v) (hb : Ext w w') : SpAt w' O p v := h.below hb h.lt
theorem SpAt.drw {S : SrcP} {w w' : World} {O : Nat} {p : Int} {v : Value} (h : SpAt w O p v) (hd : Drw S w w') (ho : O ≠ S.g) : SpAt w' O p v := h.block (hd.block O h.lt ho)
theorem SpAt.set0 {w : World} {O : Nat} {p : Int} {v : Value} (h : SpAt w O p v) (q : Int) : SpAt (w.setCell ⟨O, 0, none⟩ (.int .i64 q)) O q v := by
  obtain ⟨h0, h1, h2, h3⟩ := h
  exact ⟨by go_simp, by go_simp, by go_simp, by go_simp⟩
theorem SpAt.set1 {w : World} {O : Nat} {p : Int} {v : Value} (h : SpAt w O p v) (u : Value) : SpAt (w.setCell ⟨O, 1, none⟩ u) O p u := by
  obtain ⟨h0, h1, h2, h3⟩ := h
  exact ⟨by go_simp, by go_simp, by go_simp, by go_simp⟩
theorem SpAt.other {w : World} {O : Nat} {p : Int} {v : Value} (h : SpAt w O p v) {q : Addr} (hq : q.block ≠ O) (u : Value) : SpAt (w.setCell q u) O p v := h.block (Below.heap_setCell _ _ _ _ (Ne.symm hq))

/-- The length of the slice in a block's second cell. -/
def lenAt (w : World) (O : Nat) : Nat := match w.cell? ⟨O, 1, none⟩ with | some (.slice _ n _) => n | _ => 0
theorem lenAt_of {w : World} {O : Nat} {p : Int} {a : Option Addr} {n c : Nat} (h : SpAt w O p (.slice a n c)) : lenAt w O = n := by simp [lenAt, h.c1]

set_option maxHeartbeats 4000000 in
theorem s_any (S : SrcP) (m : Nat) (w : World) (hS : Src S w) (hm1 : 1 ≤ m) (hm : m ≤ 6) :
    Calls Try.prog 109 #[.pointer (some ⟨S.g, 0, none⟩), .int .i64 m] w fun e w' => ∃ p a d cap qs, e = .returned (.agg #[.int .i64 p, .slice a d cap]) ∧ primeB p = true ∧ 3 ≤ p ∧ p ≤ 13 ∧ 1 ≤ d ∧ d ≤ m ∧ isB p qs = true ∧ OwnC w.heap.size w' a d cap qs ∧ Drw S w w' := by
  have HS := Lib.hid hS
  have hlt := hS.lt
  clear hS
  obtain ⟨W, hW⟩ : ∃ W, W = w.alloc (.cells #[.int .i64 0, .slice none 0 0] 26) := ⟨_, rfl⟩
  have gW : Ext w W := by rw [hW]; exact ext_alloc _ _
  have hR : SpAt W w.heap.size 0 (.slice none 0 0) := by rw [hW]; exact ⟨by simp, by simp, by simp, by simp⟩
  have HR := Lib.hid hR
  have GW := Lib.hid gW
  have HW := Lib.hid hW
  clear hR gW hW
  go_enter Try.func109, Try.ntmps109
  go_wp2_with (fail)
  rw [← HW.out]
  refine Calls.mono (s_drawPrime S W ((Drw.of_ext GW.out).src HS.out)) ?_
  rintro e w1 ⟨p, rfl, hpr, hp1, hp2, g1⟩
  have HR1 := Lib.hid (HR.out.drw g1 (Nat.ne_of_gt hlt))
  have G1 := Lib.hid ((Drw.of_ext GW.out).trans g1)
  clear g1
  go_wp2_with (fail)
  obtain ⟨W2, hW2⟩ : ∃ W2, W2 = w1.alloc (.cells #[.int .i64 p, .slice none 0 0] 26) := ⟨_, rfl⟩
  obtain ⟨O, hO⟩ : ∃ O, O = w1.heap.size := ⟨_, rfl⟩
  have gW2 : Ext w1 W2 := by rw [hW2]; exact ext_alloc _ _
  have hOA : SpAt W2 O p (.slice none 0 0) := by rw [hW2, hO]; exact ⟨by simp, by simp, by simp, by simp⟩
  rw [← hW2, ← hO]
  have hOw : w.heap.size < O := by rw [hO]; exact HR1.out.lt
  have HOA := Lib.hid hOA
  have HR2 := Lib.hid (HR1.out.ext gW2)
  have G2 := Lib.hid (G1.out.ext gW2)
  have hm0 : (m : Int) ≤ 9223372036854775807 := by omega
  have hgO : O ≠ S.g := by omega
  have hgR : w.heap.size ≠ S.g := by omega
  clear hW2 hO gW2 hOA HR1 G1
  refine Calls.mono (s_next S m W2 (G2.out.src HS.out) hm0) ?_
  rintro e w2 ⟨r0, rfl, hr0, g2⟩
  obtain ⟨N, hN, hN1, hN2⟩ : ∃ N : Nat, 1 + r0 = (N : Int) ∧ 1 ≤ N ∧ N ≤ m := ⟨(1 + r0).toNat, by have := hr0.2 (by omega); omega, by have := hr0.2 (by omega); omega, by have := hr0.2 (by omega); omega⟩
  have HR3 := Lib.hid (HR2.out.drw g2 hgR)
  have HO3 := Lib.hid (HOA.out.drw g2 hgO)
  have G3 := Lib.hid (G2.out.trans g2)
  have hwN : IntKind.i64.wrap (1 + r0) = N := by rw [hN]; exact IntWalk.i64_in _ (by omega)
  have hwN' : wrap64 (1 + r0) = N := by rw [hN]; unfold wrap64; omega
  clear g2 hr0 HR2 HOA G2
  go_wp2_with (fail)
  go_loopw [7] (fun i wr => ∃ (k : Nat) (a : Option Addr) (cap : Nat) (qs : List Int), k ≤ N ∧ i = .int .i64 ((N - k : Nat) : Int) ∧ Hid (SpAt wr w.heap.size 0 (.slice none 0 0)) ∧ Hid (SpAt wr O p (.slice a k cap)) ∧ Hid (OwnC (O + 1) wr a k cap qs) ∧ Hid (isB p qs = true) ∧ Hid (Drw S w wr)) (fun i _ => (intOf i).toNat)
  case atStart => exact ⟨0, none, 0, [], Nat.zero_le _, by simp, HR3, HO3, Lib.hid (own_nil _ _), Lib.hid (by simp [isB]), G3⟩
  case round =>
    obtain ⟨k, a, cap, qs, hk, rfl, HR, HO, HQ, HB, HD⟩ := hrel
    clear HR3 HO3 G3
    by_cases hkn : k < N
    · obtain ⟨j, hj⟩ : ∃ j : Nat, N - k = j + 1 := ⟨N - k - 1, by omega⟩
      rw [hj]
      have hp3 : p - 1 ≤ 9223372036854775807 := by omega
      have hwp : wrap64 (p - 1) = p - 1 := by unfold wrap64; omega
      go_wp2_with (fail)
      refine Calls.mono (s_next S (p - 1) wr (HD.out.src HS.out) hp3) ?_
      rintro e w3 ⟨r1, rfl, hr1, g3⟩
      have hr1' := hr1.2 (by omega)
      have HR4 := Lib.hid (HR.out.drw g3 hgR)
      have HO4 := Lib.hid (HO.out.drw g3 hgO)
      have HQ4 := Lib.hid (g3.own HQ.out (by omega))
      have HD4 := Lib.hid (HD.out.trans g3)
      have hwr : wrap64 (1 + r1) = 1 + r1 := by unfold wrap64; omega
      clear g3 hr1 HR HO HQ HD
      go_wp2_with (fail)
      refine Calls.mono (s_pick S w3.heap.size 4 4 [1, p - 1, 1 + r1, 1] _ ((HD4.out.alloc _).src HS.out) (by decide) (by decide) (rdC_lit w3 _ [1, p - 1, 1 + r1, 1]) (by have := HD4.out.size; omega)) ?_
      rintro e w4 ⟨r2, rfl, hr2, g4⟩
      have hr2' : 0 ≤ r2 ∧ r2 < p := by
        simp only [List.mem_cons, List.not_mem_nil, or_false] at hr2
        omega
      have HR5 := Lib.hid ((HR4.out.ext (ext_alloc _ _)).drw g4 hgR)
      have HO5 := Lib.hid ((HO4.out.ext (ext_alloc _ _)).drw g4 hgO)
      have HQ5 := Lib.hid (g4.own (HQ4.out.ext (ext_alloc _ _)) (by omega))
      have HD5 := Lib.hid ((HD4.out.alloc _).trans g4)
      clear g4 hr2 HR4 HO4 HQ4 HD4
      go_wp2_with (fail)
      refine Calls.mono (s_next S 10 w4 (HD5.out.src HS.out) (by decide)) ?_
      rintro e w5 ⟨r3, rfl, hr3, g5⟩
      have HR6 := Lib.hid (HR5.out.drw g5 hgR)
      have HO6 := Lib.hid (HO5.out.drw g5 hgO)
      have HQ6 := Lib.hid (g5.own HQ5.out (by omega))
      have HD6 := Lib.hid (HD5.out.trans g5)
      have c1 := HO6.out.c1
      clear g5 hr3 HR5 HO5 HQ5 HD5
      have h0 : (0 : Int) ≤ 0 ∧ (0 : Int) < p := by omega
      by_cases hb : r3 = 0
      · have hbb : (r3 == 0) = true := by simp [hb]
        go_wp2_with (at_builtin; refine wpList_push rfl (.tmp 35) (.tmp 37) rfl rfl rfl (v := 0) (HQ6.out.ext (ext_alloc _ _)) ?hc ?hn ?hB ?hk)
        case hc => simp
        case hn => omega
        case hB => have := HO6.out.lt; simp; omega
        case hk =>
          intro g' cap' w6 ho6 hg6 he6
          have hbl : Below (O + 1) w5 w6 := (Below.refl _ _).trans (((Below.refl (O + 1) _).alloc (by have := HO6.out.lt; omega) _).grown hg6 (by have := HO6.out.lt; simp; omega) (fun k hk => HQ6.out.blk k hk))
          have HO7 := Lib.hid (HO6.out.below hbl (by omega))
          have HR7 := Lib.hid (HR6.out.below hbl (by omega))
          have HD7 := Lib.hid (HD6.out.below (hbl.mono (by omega)))
          have HQ7 := Lib.hid ho6
          have c1' := HO7.out.c1
          have f1' := HO7.out.f1
          clear hbl ho6 hg6 he6 c1
          go_wp2_with (fail)
          go_roundw
          case rel => exact ⟨k + 1, _, cap', _, by omega, by go_num, Lib.hid (HR7.out.other (by simp; omega) _), Lib.hid (HO7.out.set1 _), Lib.hid (HQ7.out.other (by simp) _), Lib.hid (by
              have h1 := HB.out
              unfold isB at h1 ⊢
              rw [List.all_append, h1]
              simp [inB]; omega), Lib.hid (HD7.out.setCell (by simp; omega) _)⟩
          case measure => simp [intOf]
      · have hbb : (r3 == 0) = false := by simp [hb]
        go_wp2_with (at_builtin; refine wpList_push rfl (.tmp 35) (.tmp 37) rfl rfl rfl (v := r2) (HQ6.out.ext (ext_alloc _ _)) ?hc ?hn ?hB ?hk)
        case hc => simp
        case hn => omega
        case hB => have := HO6.out.lt; simp; omega
        case hk =>
          intro g' cap' w6 ho6 hg6 he6
          have hbl : Below (O + 1) w5 w6 := (Below.refl _ _).trans (((Below.refl (O + 1) _).alloc (by have := HO6.out.lt; omega) _).grown hg6 (by have := HO6.out.lt; simp; omega) (fun k hk => HQ6.out.blk k hk))
          have HO7 := Lib.hid (HO6.out.below hbl (by omega))
          have HR7 := Lib.hid (HR6.out.below hbl (by omega))
          have HD7 := Lib.hid (HD6.out.below (hbl.mono (by omega)))
          have HQ7 := Lib.hid ho6
          have c1' := HO7.out.c1
          have f1' := HO7.out.f1
          clear hbl ho6 hg6 he6 c1
          go_wp2_with (fail)
          go_roundw
          case rel => exact ⟨k + 1, _, cap', _, by omega, by go_num, Lib.hid (HR7.out.other (by simp; omega) _), Lib.hid (HO7.out.set1 _), Lib.hid (HQ7.out.other (by simp) _), Lib.hid (by
              have h1 := HB.out
              unfold isB at h1 ⊢
              rw [List.all_append, h1]
              simp [inB]; omega), Lib.hid (HD7.out.setCell (by simp; omega) _)⟩
          case measure => simp [intOf]
    · have hk0 : N - k = 0 := by omega
      rw [hk0]
      obtain rfl : k = N := by omega
      have o0 := HO.out.c0
      have o1 := HO.out.c1
      have r0 := HR.out.c0
      have r1 := HR.out.c1
      have f0 := HR.out.f0
      have f1 := HR.out.f1
      go_wp2_with (fail)
      refine bodyPost_ret (v := .agg #[.int .i64 p, .slice a k cap]) (by simp [results, Try.results109, go_sem, r0, r1]) rfl ⟨p, a, k, cap, qs, rfl, hpr, hp1, hp2, hN1, hN2, HB.out, ?_, ?_⟩
      · exact ((HQ.out.other (by simp; omega) _).other (by simp; omega) _).mono (by omega)
      · exact (HD.out.setCell (by simp) _).setCell (by simp) _

set_option maxHeartbeats 1000000 in
theorem s_draw3 (S : SrcP) (w : World) (hS : Src S w) :
    Calls Try.prog 141 #[.pointer (some ⟨S.g, 0, none⟩)] w fun e w' => ∃ p a d cap qs, e = .returned (.agg #[.int .i64 p, .slice a d cap]) ∧ primeB p = true ∧ 3 ≤ p ∧ p ≤ 13 ∧ 1 ≤ d ∧ d ≤ 6 ∧ isB p qs = true ∧ OwnC w.heap.size w' a d cap qs ∧ Drw S w w' := by
  have HS := Lib.hid hS
  have hlt := hS.lt
  clear hS
  obtain ⟨W, hW⟩ : ∃ W, W = w.alloc (.cells #[.int .i64 0, .slice none 0 0] 26) := ⟨_, rfl⟩
  have gW : Ext w W := by rw [hW]; exact ext_alloc _ _
  have HZ := Lib.hid (show W.heap.size = w.heap.size + 1 by rw [hW]; simp)
  have HR := Lib.hid (show SpAt W w.heap.size 0 (.slice none 0 0) by rw [hW]; exact ⟨by simp, by simp, by simp, by simp⟩)
  have HW := Lib.hid hW
  have GW := Lib.hid (Drw.of_ext (S := S) gW)
  have hgR : w.heap.size ≠ S.g := by omega
  clear gW hW
  go_enter Try.func141, Try.ntmps141
  go_wp2_with (fail)
  rw [← HW.out]
  refine Calls.mono (s_pick S (w.heap.size + 1) 5 5 [2, 3, 3, 4, 6] _ ((GW.out.alloc _).src HS.out) (by decide) (by decide) (by rw [← HZ.out]; exact rdC_lit W _ [2, 3, 3, 4, 6]) (by omega)) ?_
  rintro e w2 ⟨r, rfl, hr, g2⟩
  obtain ⟨m, rfl, hm1, hm2⟩ : ∃ m : Nat, r = (m : Int) ∧ 1 ≤ m ∧ m ≤ 6 := by
    refine ⟨r.toNat, ?_⟩
    simp only [List.mem_cons, List.not_mem_nil, or_false] at hr
    omega
  have HR2 := Lib.hid ((HR.out.ext (ext_alloc _ _)).drw g2 hgR)
  have G2 := Lib.hid ((GW.out.alloc _).trans g2)
  clear g2 hr HR
  go_wp2_with (fail)
  refine Calls.mono (s_any S m w2 (G2.out.src HS.out) hm1 hm2) ?_
  rintro e w3 ⟨p, a, d, cap, qs, rfl, hpr, hp1, hp2, hd1, hd2, hqb, ho, g3⟩
  have r0 := (HR2.out.drw g3 hgR).c0
  have r1 := (HR2.out.drw g3 hgR).c1
  have f0 := (HR2.out.drw g3 hgR).f0
  have f1 := (HR2.out.drw g3 hgR).f1
  have hlw := HR2.out.lt
  have HO := Lib.hid ho
  have G3 := Lib.hid (G2.out.trans g3)
  clear ho g3
  go_wp2_with (fail)
  refine bodyPost_ret (v := .agg #[.int .i64 p, .slice a d cap]) (by simp [results, Try.results141, go_sem, r0, r1]) rfl ⟨p, a, d, cap, qs, rfl, hpr, hp1, hp2, hd1, by omega, hqb, ?_, ?_⟩
  · exact ((HO.out.other (by simp; omega) _).other (by simp; omega) _).mono (by omega)
  · exact (G3.out.setCell (by simp) _).setCell (by simp) _

namespace Chg
/-- A written row that is not the source. -/
def SPred.lit (S : SrcP) (n : Nat) (xs : List Int) : SPred (Drw.rel S) :=
  ⟨fun v w => ∃ b, v = .slice (some ⟨b, 0, none⟩) n n ∧ RdC w (some ⟨b, 0, none⟩) n xs ∧ b ≠ S.g, fun _ _ _ ⟨b, h1, h2, h3⟩ he => ⟨b, h1, ⟨h2.1, fun i hi => by
    obtain ⟨b', o, hb, hc⟩ := h2.2 i hi
    simp only [Option.some.injEq, Addr.mk.injEq] at hb
    obtain ⟨rfl, rfl, _⟩ := hb
    exact ⟨b, 0, rfl, Drw.cell he h3 hc⟩⟩, h3⟩⟩
/-- Some number. -/
def SPred.some_ (S : SrcP) : SPred (Drw.rel S) := ⟨fun v _ => ∃ r, v = .int .i64 r, fun _ _ _ h _ => h⟩
/-- A number from 0 on below another one. -/
def SPred.lt (S : SrcP) (n : Int) : SPred (Drw.rel S) := ⟨fun v _ => ∃ r, v = .int .i64 r ∧ 0 ≤ r ∧ r < n, fun _ _ _ h _ => h⟩
end Chg

set_option maxHeartbeats 4000000 in
theorem s_spoil3 (S : SrcP) (w : World) (hS : Src S w) :
    Calls Try.prog 111 #[.pointer (some ⟨S.g, 0, none⟩)] w fun e w' => ∃ p a d cap qs, e = .returned (.agg #[.int .i64 p, .slice a d cap]) ∧ 0 ≤ p ∧ p ≤ 17 ∧ d ≤ 7 ∧ OwnC w.heap.size w' a d cap qs ∧ Drw S w w' := by
  have HS := Lib.hid hS
  have hlt := hS.lt
  clear hS
  obtain ⟨W, hW⟩ : ∃ W, W = w.alloc (.cells #[.int .i64 0, .slice none 0 0] 26) := ⟨_, rfl⟩
  have gW : Ext w W := by rw [hW]; exact ext_alloc _ _
  have HZ := Lib.hid (show W.heap.size = w.heap.size + 1 by rw [hW]; simp)
  have HR := Lib.hid (show SpAt W w.heap.size 0 (.slice none 0 0) by rw [hW]; exact ⟨by simp, by simp, by simp, by simp⟩)
  have HW := Lib.hid hW
  have GW := Lib.hid (Drw.of_ext (S := S) gW)
  have hgR : w.heap.size ≠ S.g := by omega
  clear gW hW
  go_enter Try.func111, Try.ntmps111
  go_wp2_with (fail)
  rw [← HW.out]
  refine Calls.mono (s_draw3 S W (GW.out.src HS.out)) ?_
  rintro e w1 ⟨p, a, d, cap, qs, rfl, hpr, hp1, hp2, hd1, hd2, hqb, ho, g1⟩
  obtain ⟨W2, hW2⟩ : ∃ W2, W2 = w1.alloc (.cells #[.int .i64 p, .slice a d cap] 26) := ⟨_, rfl⟩
  obtain ⟨O, hO⟩ : ∃ O, O = w1.heap.size := ⟨_, rfl⟩
  have gW2 : Ext w1 W2 := by rw [hW2]; exact ext_alloc _ _
  have hOA : SpAt W2 O p (.slice a d cap) := by rw [hW2, hO]; exact ⟨by simp, by simp, by simp, by simp⟩
  have HR1 := Lib.hid ((HR.out.drw g1 hgR).ext gW2)
  have hoB : OwnC (w.heap.size + 1) w1 a d cap qs := by rw [← HZ.out]; exact ho
  have HQ1 := Lib.hid (hoB.ext gW2)
  have G1 := Lib.hid ((GW.out.trans g1).ext gW2)
  have hOw : w.heap.size < O := by rw [hO]; exact (HR.out.drw g1 hgR).lt
  have hOQ : ∀ g, a = some ⟨g, 0, none⟩ → w.heap.size + 1 ≤ g ∧ g < O := fun g hg => by have := ho.base_of g hg; have := HZ.out; omega
  have hgO : O ≠ S.g := by omega
  go_wp2_with (fail)
  rw [← hW2, ← hO]
  have HOA := Lib.hid hOA
  clear hO gW2 ho hoB g1 hW2 hOA HR
  refine Calls.mono (s_next S 40 W2 (G1.out.src HS.out) (by decide)) ?_
  rintro e w2 ⟨r, rfl, hr, g2⟩
  have HR2 := Lib.hid (HR1.out.drw g2 hgR)
  have HO2 := Lib.hid (HOA.out.drw g2 hgO)
  have HQ2 := Lib.hid (g2.own HQ1.out (by omega))
  have G2 := Lib.hid (G1.out.trans g2)
  clear g2 HR1 HOA HQ1 G1 hr
  by_cases h0 : r = 0
  · subst h0
    go_wp2_with (fail)
    refine Calls.mono (s_pick S w2.heap.size 4 4 [4, 1, 17, 0] _ ((G2.out.alloc _).src HS.out) (by decide) (by decide) (rdC_lit w2 _ [4, 1, 17, 0]) (by have := HO2.out.lt; omega)) ?_
    rintro e w3 ⟨q, rfl, hq, g3⟩
    have hq' : 0 ≤ q ∧ q ≤ 17 := by
      simp only [List.mem_cons, List.not_mem_nil, or_false] at hq
      omega
    have HR3 := Lib.hid ((HR2.out.ext (ext_alloc _ _)).drw g3 hgR)
    have HO3 := Lib.hid ((HO2.out.ext (ext_alloc _ _)).drw g3 hgO)
    have HQ3 := Lib.hid (g3.own (HQ2.out.ext (ext_alloc _ _)) (by omega))
    have G3 := Lib.hid ((G2.out.alloc _).trans g3)
    clear g3 HR2 HO2 HQ2 G2 hq
    have o0 := HO3.out.c0
    have o1 := HO3.out.c1
    have of0 := HO3.out.f0
    have of1 := HO3.out.f1
    have r0 := HR3.out.c0
    have r1 := HR3.out.c1
    have f0 := HR3.out.f0
    have f1 := HR3.out.f1
    go_wp2_with (fail)
    refine bodyPost_ret (v := .agg #[.int .i64 q, .slice a d cap]) (by simp [results, Try.results111, go_sem, r0, r1]) rfl ⟨q, a, d, cap, qs, rfl, hq'.1, hq'.2, by omega, ?_, ?_⟩
    · exact (((HQ3.out.keep (fun g hg => Below.heap_setCell _ _ _ _ (by have := hOQ g hg; simp; omega))).other (by simp) _).other (by simp) _).mono (by omega)
    · exact ((G3.out.setCell (by simp; omega) _).setCell (by simp) _).setCell (by simp) _
  by_cases h1 : r = 1
  · subst h1
    obtain ⟨g, rfl⟩ : ∃ g, a = some ⟨g, 0, none⟩ := by
      obtain ⟨g, _, hg, _⟩ := HQ2.out.row (by omega)
      exact ⟨g, hg⟩
    have hgq := hOQ g rfl
    have hdp : 0 < d := by omega
    have HO3 := Lib.hid (HO2.out.ext (ext_drew _))
    have HS2 := Lib.hid (G2.out.drew.src HS.out)
    have hqc := HQ2.out.cell (j := 0) (by omega)
    have HC := Lib.hid ((ext_drew w2).cell hqc)
    clear hqc
    go_wp2_with (fail)
    refine Chg.wp_region_lex_tail (E := Drw.rel S) 8 [(5, .lit S 2 [-1, p]), (6, .some_ S)] (by kernel_rfl) (by kernel_rfl) ?_
    simp only [List.take, List.drop]
    (refine Chg.LexW.pure (v := ?_) rfl rfl (fun w1 he => ?_) ?_; rotate_left; ( have he' : Drw S w2.drew _ := he; have x0 := he'.cell (p := ⟨O, 0, none⟩) hgO HO3.out.c0; have x1 := he'.cell (p := ⟨O, 1, none⟩) hgO HO3.out.c1; have x2 := he'.cell (p := ⟨g, 0, none⟩) (by show g ≠ S.g; omega) HC.out; go_simp; rfl); simp only [Act.put, List.setIfInBounds_toArray, List.set_cons_zero, List.set_cons_succ])
    (refine Chg.LexW.pure (v := ?_) rfl rfl (fun w1 he => ?_) ?_; rotate_left; ( have he' : Drw S w2.drew _ := he; have x0 := he'.cell (p := ⟨O, 0, none⟩) hgO HO3.out.c0; have x1 := he'.cell (p := ⟨O, 1, none⟩) hgO HO3.out.c1; have x2 := he'.cell (p := ⟨g, 0, none⟩) (by show g ≠ S.g; omega) HC.out; go_simp; rfl); simp only [Act.put, List.setIfInBounds_toArray, List.set_cons_zero, List.set_cons_succ])
    (refine Chg.LexW.pure (v := ?_) rfl rfl (fun w1 he => ?_) ?_; rotate_left; ( have he' : Drw S w2.drew _ := he; have x0 := he'.cell (p := ⟨O, 0, none⟩) hgO HO3.out.c0; have x1 := he'.cell (p := ⟨O, 1, none⟩) hgO HO3.out.c1; have x2 := he'.cell (p := ⟨g, 0, none⟩) (by show g ≠ S.g; omega) HC.out; go_simp; rfl); simp only [Act.put, List.setIfInBounds_toArray, List.set_cons_zero, List.set_cons_succ])
    (refine Chg.LexW.pure (v := ?_) rfl rfl (fun w1 he => ?_) ?_; rotate_left; ( have he' : Drw S w2.drew _ := he; have x0 := he'.cell (p := ⟨O, 0, none⟩) hgO HO3.out.c0; have x1 := he'.cell (p := ⟨O, 1, none⟩) hgO HO3.out.c1; have x2 := he'.cell (p := ⟨g, 0, none⟩) (by show g ≠ S.g; omega) HC.out; go_simp; rfl); simp only [Act.put, List.setIfInBounds_toArray, List.set_cons_zero, List.set_cons_succ])
    (refine Chg.LexW.pure (v := ?_) rfl rfl (fun w1 he => ?_) ?_; rotate_left; ( have he' : Drw S w2.drew _ := he; have x0 := he'.cell (p := ⟨O, 0, none⟩) hgO HO3.out.c0; have x1 := he'.cell (p := ⟨O, 1, none⟩) hgO HO3.out.c1; have x2 := he'.cell (p := ⟨g, 0, none⟩) (by show g ≠ S.g; omega) HC.out; go_simp; rfl); simp only [Act.put, List.setIfInBounds_toArray, List.set_cons_zero, List.set_cons_succ])
    (refine Chg.LexW.rel rfl rfl (fun w1 he hdep => ?_) (fun v hv => ?_); ( have he' : Drw S w2.drew _ := he; exact ⟨.slice (some ⟨w1.heap.size, 0, none⟩) 2 2, w1.alloc (.cells #[.int .i64 (-1), .int .i64 p] 2), (by go_simp), Drw.of_ext (ext_alloc _ _), _, rfl, rdC_lit w1 _ [-1, p], (by have := he'.size; have := HS2.out.lt; omega)⟩); simp only [Act.put, List.setIfInBounds_toArray, List.set_cons_zero, List.set_cons_succ])
    obtain ⟨_, b5, rfl, _⟩ := hv
    (refine Chg.LexW.callR (f := ?_) (args := ?_) rfl rfl (fun w1 => ?_) (fun w1 he hdep => ?_) (fun v hv => ?_); rotate_left 2; (go_simp; refine ⟨?_, ?_⟩ <;> rfl); ( have he' : Drw S w2.drew _ := he; obtain ⟨_, q5, r5, r5'⟩ : (Chg.SPred.lit S 2 [-1, p]).holds (.slice (some ⟨b5, 0, none⟩) 2 2) w1 := hdep (5, 21) (by decide +kernel); cases q5; refine Calls.mono (s_pick S b5 2 2 [-1, p] w1 (he'.src HS2.out) (by decide) (by decide) r5 r5') ?_; rintro e w3 ⟨q, rfl, _, x3⟩; exact ⟨_, rfl, x3, q, rfl⟩); simp only [Act.put, List.setIfInBounds_toArray, List.set_cons_zero, List.set_cons_succ])
    obtain ⟨_, q, rfl⟩ := hv
    (refine Chg.LexW.pure (v := ?_) rfl rfl (fun w1 he => ?_) ?_; rotate_left; ( have he' : Drw S w2.drew _ := he; have x0 := he'.cell (p := ⟨O, 0, none⟩) hgO HO3.out.c0; have x1 := he'.cell (p := ⟨O, 1, none⟩) hgO HO3.out.c1; have x2 := he'.cell (p := ⟨g, 0, none⟩) (by show g ≠ S.g; omega) HC.out; go_simp; rfl); simp only [Act.put, List.setIfInBounds_toArray, List.set_cons_zero, List.set_cons_succ])
    refine Chg.LexW.nil (fun w3 he hkn => ?_)
    have he' : Drw S w2.drew w3 := he
    have HR3 := Lib.hid ((HR2.out.ext (ext_drew _)).drw he' hgR)
    have HO4 := Lib.hid (HO3.out.drw he' hgO)
    have HQ3 := Lib.hid (he'.own (HQ2.out.ext (ext_drew _)) (by omega))
    have G3 := Lib.hid (G2.out.drew.trans he')
    have hq0 := HQ3.out.cell (j := 0) (by omega)
    have hqf := HQ3.out.frozen 0
    have o0 := HO4.out.c0
    have o1 := HO4.out.c1
    have of0 := HO4.out.f0
    have of1 := HO4.out.f1
    have r0 := HR3.out.c0
    have r1 := HR3.out.c1
    have f0 := HR3.out.f0
    have f1 := HR3.out.f1
    clear he he' hkn
    go_wp2_with (fail)
    refine bodyPost_ret (v := .agg #[.int .i64 p, .slice (some ⟨g, 0, none⟩) d cap]) (by simp [results, Try.results111, go_sem, r0, r1]) rfl ⟨p, some ⟨g, 0, none⟩, d, cap, qs.set 0 q, rfl, by omega, by omega, by omega, ?_, ?_⟩
    · exact (((HQ3.out.store (j := 0) (by omega) q).other (by simp) _).other (by simp) _).mono (by omega)
    · exact ((G3.out.setCell (by simp; omega) _).setCell (by simp) _).setCell (by simp) _
  by_cases h2 : r = 2
  · subst h2
    have lO := HO2.out.lt
    have lR := HR2.out.lt
    have o0 := HO2.out.c0
    have o1 := HO2.out.c1
    have of0 := HO2.out.f0
    have of1 := HO2.out.f1
    have r0 := HR2.out.c0
    have r1 := HR2.out.c1
    have f0 := HR2.out.f0
    have f1 := HR2.out.f1
    go_wp2_with (fail)
    have HF := (((HR2.out.other (q := ⟨O, 1, none⟩) (by simp; omega) (.slice (some ⟨w2.heap.size, 0, none⟩) 0 0)).set0 p).set1 (.slice (some ⟨w2.heap.size, 0, none⟩) 0 0)).ext (ext_alloc _ (.cells #[] 2))
    have r0' := HF.c0
    have r1' := HF.c1
    refine bodyPost_ret (v := .agg #[.int .i64 p, .slice (some ⟨w2.heap.size, 0, none⟩) 0 0]) (by simp [results, Try.results111, go_sem, r0', r1']) rfl ⟨p, _, 0, 0, [], rfl, by omega, by omega, by omega, ?_, ?_⟩
    · have h := own_empty (((w2.setCell ⟨O, 1, none⟩ (.slice (some ⟨w2.heap.size, 0, none⟩) 0 0)).setCell ⟨w.heap.size, 0, none⟩ (.int .i64 p)).setCell ⟨w.heap.size, 1, none⟩ (.slice (some ⟨w2.heap.size, 0, none⟩) 0 0))
      simp only [World.size_setCell] at h
      exact h.mono (by omega)
    · exact (((G2.out.setCell (by simp; omega) _).setCell (by simp) _).setCell (by simp) _).alloc _
  by_cases h3 : r = 3
  · subst h3
    have HW2 := Lib.hid HW
    go_wp2_with (fail)
    go_loopw [] (fun wr => ∃ (a' : Option Addr) (k cap' : Nat) (xs : List Int), k ≤ 7 ∧ 1 ≤ k ∧ Hid (SpAt wr w.heap.size 0 (.slice none 0 0)) ∧ Hid (SpAt wr O p (.slice a' k cap')) ∧ Hid (∀ g, a' = some ⟨g, 0, none⟩ → g ≠ O) ∧ Hid (OwnC (w.heap.size + 1) wr a' k cap' xs) ∧ Hid (Drw S w wr)) (fun wr => 7 - lenAt wr O)
    case atStart => exact ⟨a, d, cap, qs, by omega, hd1, HR2, HO2, Lib.hid (fun g hg => by have := hOQ g hg; omega), HQ2, G2⟩
    case round =>
      obtain ⟨a', k, cap', xs, hk, hk1, HR, HO, HN, HQ, HD⟩ := hrel
      clear HR2 HO2 HQ2 G2
      have o0 := HO.out.c0
      have o1 := HO.out.c1
      have of0 := HO.out.f0
      have of1 := HO.out.f1
      have hla := lenAt_of HO.out
      have hlO := HO.out.lt
      by_cases hlt7 : k < 7
      · go_wp2_with (at_builtin; refine wpList_push rfl (.tmp 35) (.tmp 36) rfl rfl rfl (v := 1) (HQ.out.ext (ext_alloc _ _)) ?hc ?hn ?hB ?hk)
        case hc => simp
        case hn => omega
        case hB => have := HR.out.lt; simp; omega
        case hk =>
          intro g' cap2 w6 ho6 hg6 he6
          have hb6 : w6.heap[O]? = wr.heap[O]? := by
            have h1 := hg6.block O (by simp; omega) (fun e => by
              rcases HQ.out.2.2 with ⟨h3, _⟩ | ⟨g, c, cur, hv, _⟩
              · rw [h3] at e; simp [Value.ownBlock] at e
              · simp only [Value.slice.injEq] at hv
                rw [hv.1] at e
                simp only [Value.ownBlock, Option.some.injEq] at e
                exact HN.out g hv.1 e.symm)
            rw [h1]; exact Below.heap_alloc _ _ _ hlO
          have hbl : Below (w.heap.size + 1) wr w6 := (Below.refl _ _).trans (((Below.refl (w.heap.size + 1) _).alloc (by omega) _).grown hg6 (by simp; omega) (fun k hk => HQ.out.blk k hk))
          have HO7 := Lib.hid (HO.out.block hb6)
          have HR7 := Lib.hid (HR.out.below hbl (by omega))
          have HD7 := Lib.hid (HD.out.below (hbl.mono (by omega)))
          have HQ7 := Lib.hid ho6
          have HN7 := Lib.hid (show ∀ g, (some ⟨g', 0, none⟩ : Option Addr) = some ⟨g, 0, none⟩ → g ≠ O from fun g hg h => by
            simp only [Option.some.injEq, Addr.mk.injEq, and_self, and_true] at hg
            have h1 := HQ7.out.cell (j := 1) (by omega)
            have h2 := HO7.out.c1
            rw [hg, h, h2] at h1
            cases h1)
          have c1' := HO7.out.c1
          have f1' := HO7.out.f1
          clear hbl ho6 hg6 he6 o0 o1 of0 of1 hb6
          go_wp2_with (fail)
          go_roundw
          case rel => exact ⟨_, k + 1, cap2, _, by omega, by omega, Lib.hid (HR7.out.other (by simp; omega) _), Lib.hid (HO7.out.set1 _), HN7, Lib.hid (HQ7.out.keep (fun g hg => Below.heap_setCell _ _ _ _ (HN7.out g hg))), Lib.hid (HD7.out.setCell (by simp; omega) _)⟩
          case measure =>
            rw [hla, lenAt_of (HO7.out.set1 _)]
            omega
      · have r0 := HR.out.c0
        have r1 := HR.out.c1
        have f0 := HR.out.f0
        have f1 := HR.out.f1
        go_wp2_with (fail)
        refine bodyPost_ret (v := .agg #[.int .i64 p, .slice a' k cap']) (by simp [results, Try.results111, go_sem, r0, r1]) rfl ⟨p, a', k, cap', xs, rfl, by omega, by omega, by omega, ?_, ?_⟩
        · exact ((HQ.out.other (by simp) _).other (by simp) _).mono (by omega)
        · exact (HD.out.setCell (by simp) _).setCell (by simp) _
  · have b0 : (r == 0) = false := by simp [h0]
    have b1 : (r == 1) = false := by simp [h1]
    have b2 : (r == 2) = false := by simp [h2]
    have b3 : (r == 3) = false := by simp [h3]
    have o0 := HO2.out.c0
    have o1 := HO2.out.c1
    have of0 := HO2.out.f0
    have of1 := HO2.out.f1
    have r0 := HR2.out.c0
    have r1 := HR2.out.c1
    have f0 := HR2.out.f0
    have f1 := HR2.out.f1
    go_wp2_with (fail)
    refine bodyPost_ret (v := .agg #[.int .i64 p, .slice a d cap]) (by simp [results, Try.results111, go_sem, r0, r1]) rfl ⟨p, a, d, cap, qs, rfl, by omega, by omega, by omega, ?_, ?_⟩
    · exact ((HQ2.out.other (by simp) _).other (by simp) _).mono (by omega)
    · exact (G2.out.setCell (by simp) _).setCell (by simp) _
end Go.Proofs.Ytcocbainookkcaa

/-
  Listed functions of multivectors at good arguments.
  No condition.
-/
namespace Go.Proofs.Ytcocbainookkcaa
set_option maxRecDepth 100000
open Go.RowKit

theorem OwnC.addr {B : Nat} {w : World} {a : Option Addr} {n cap : Nat} {xs : List Int} (h : OwnC B w a n cap xs) (hn : 0 < n) : ∃ g, a = some ⟨g, 0, none⟩ := by
  obtain ⟨g, _, hg, _⟩ := h.row hn
  exact ⟨g, hg⟩

set_option maxHeartbeats 1000000 in
theorem c_ReverseOf_ok {N : Nat} (p : Int) (a : Option Addr) (d cap : Nat) (qs : List Int) (ax : Option Addr) (cx : Nat) (x : List Int) (w : World) (hN : N = 2 ^ d) (hs : spaceB p qs = true) (hq : RdC w a d qs) (hx : RdC w ax N x) (hgx : Good p N x) :
    Calls Try.prog 42 #[.agg #[.int .i64 p, .slice a d cap], .slice ax N cx] w fun e w' => ∃ g rc, e = .returned (.tuple #[.slice (some ⟨g, 0, none⟩) N rc, .int .i64 0]) ∧ OwnC w.heap.size w' (some ⟨g, 0, none⟩) N rc (signL p revB x N) ∧ Ext w w' := by
  obtain ⟨hpr, hd1, hd6, hqb⟩ := space_of hs
  have hpb := prime_bd hpr
  rw [hq.1] at hd6
  have hN6 : N ≤ 64 := by rw [hN]; exact pow_le64 hd6
  have hN1 : 0 < N := by rw [hN]; exact pow_pos' d
  have HC := Lib.hid (show codeM p qs [x] = 0 from codeM_one0 hs (by rw [hq.1, ← hN]; exact hgx))
  have hcb : ((0 : Int) != 0) = false := by simp
  have HQB := Lib.hid hqb
  have HN := Lib.hid hN
  obtain ⟨bx, ox, rfl, _⟩ := hx.2 0 hN1
  clear hN hqb hs
  go_enter Try.func42, Try.ntmps42
  go_wp2_with (fail)
  refine Calls.mono (c_checkMultis p a d cap qs _ 1 _ [x] _ (by omega) (by omega) (len_one (by rw [hx.1]; omega)) (hq.ext ((ext_alloc _ _).alloc _)) (rdR_one (a := _) (n := N) (cap := cx) (by simp) (hx.ext ((ext_alloc _ _).alloc _)))) ?_
  rintro e w1 ⟨rfl, g1⟩
  rw [HC.out]
  have q0 : w1.cell? ⟨w.heap.size, 0, none⟩ = some (.int .i64 p) := g1.cell (by simp)
  have q1 : w1.cell? ⟨w.heap.size, 1, none⟩ = some (.slice a d cap) := g1.cell (by simp)
  have G1 := Lib.hid (((ext_alloc w _).alloc _).trans g1)
  clear g1
  go_wp2_with (fail)
  refine Calls.mono (c_reverse p _ d cap bx ox N cx x w1 hpb.1 (by omega) hN1 hN6 (hx.ext G1.out) hgx) ?_
  rintro e w2 ⟨g, rc, rfl, ho, g2⟩
  go_wp2_with (fail)
  go_ret2
  exact ⟨g, rc, rfl, ho.mono G1.out.size, G1.out.trans g2⟩
end Go.Proofs.Ytcocbainookkcaa

/-
  Matrices of the multiplications by a multivector; the listed functions LeftMatrix and RightMatrix.
  No condition.
-/
namespace Go.Proofs.Ytcocbainookkcaa
set_option maxRecDepth 100000
open Go.RowKit

/-- The product of a multivector, on one side, and a blade. -/
def mulC (p : Int) (qs x : List Int) (left : Bool) (m : Nat) : List Int := if left = true then prodL p qs tkA x (bladeL (2 ^ qs.length) m) else prodL p qs tkA (bladeL (2 ^ qs.length) m) x
def colsM (p : Int) (qs x : List Int) (left : Bool) (k : Nat) : List (List Int) := (List.range k).map (mulC p qs x left)
theorem colsM_succ (p : Int) (qs x : List Int) (left : Bool) (k : Nat) : colsM p qs x left (k + 1) = colsM p qs x left k ++ [mulC p qs x left k] := by simp [colsM, List.range_succ]
theorem colsM_len (p : Int) (qs x : List Int) (left : Bool) (k : Nat) : (colsM p qs x left k).length = k := by simp [colsM]
theorem mulC_good {p : Int} {qs x : List Int} {left : Bool} {m : Nat} (hp : 1 ≤ p) : Good p (2 ^ qs.length) (mulC p qs x left m) := by unfold mulC; split <;> exact prod_good hp
theorem colsM_nth {p : Int} {qs x : List Int} {left : Bool} {k i : Nat} (h : i < k) : nthR (colsM p qs x left k) i = mulC p qs x left i := by
  unfold colsM; rw [nthR_map (by simpa using h)]; simp
/-- The matrix of a multiplication. -/
def matM (p : Int) (qs x : List Int) (left : Bool) : List (List Int) := turnL (colsM p qs x left (2 ^ qs.length)) (2 ^ qs.length) (2 ^ qs.length)
theorem matM_len (p : Int) (qs x : List Int) (left : Bool) : (matM p qs x left).length = 2 ^ qs.length := turnL_len _ _ _
theorem matM_good {p : Int} {qs x : List Int} {left : Bool} (hp : 1 ≤ p) : RowsG p (2 ^ qs.length) (matM p qs x left) := fun i hi => by
  rw [matM_len] at hi
  unfold matM
  rw [turnL_nth hi]
  refine ⟨colL_len _ _ _, fun j hj => ?_⟩
  rw [colL_nth hj, colsM_nth hj]
  exact (mulC_good hp).2 i hi






theorem cnt_good {p : Int} {m : Nat} {rows : List (List Int)} (h : RowsG p m rows) : ∀ k, k ≤ rows.length → cntR rows k = k * m
  | 0, _ => by simp [cntR]
  | k + 1, hk => by
    show cntR rows k + _ = _
    rw [cnt_good h k (by omega), (h k (by omega)).1, Nat.succ_mul]
theorem matM_cnt {p : Int} {a : Option Addr} {d : Nat} {qs : List Int} {ax1 : Option Addr} {n1 : Nat} {xs1 : List Int} {w : World} {b : Bool} (_hq : RdC w a d qs) (hx1 : RdC w ax1 n1 xs1) (hc : codeA p qs [xs1] = 0) : cntR (matM p qs xs1 b) n1 ≤ 1048576 := by
  obtain ⟨hcm, hq4⟩ := codeA_zero hc
  obtain ⟨hs, hm⟩ := codeM_one hcm
  obtain ⟨hpr, hd1, hd6, hqb⟩ := space_of hs
  have hpb := prime_bd hpr
  obtain ⟨hxl, hxb⟩ := multi_of hm
  have hN : n1 = 2 ^ qs.length := by rw [← hxl]; exact hx1.1.symm
  have h64 := pow_le64 hd6
  rw [cnt_good (matM_good (by omega)) n1 (by rw [matM_len]; omega), hN]
  exact Nat.le_trans (Nat.mul_le_mul h64 h64) (by omega)





end Go.Proofs.Ytcocbainookkcaa

/-
  Contract: the reduced basis of rows, in the program and in the reference.
  No condition.
-/
namespace Go.Proofs.Ytcocbainookkcaa
set_option maxRecDepth 100000
open Go.RowKit

theorem ownR_put_len {p : Int} {m : Nat} {rows : List (List Int)} (h : RowsG p m rows) {n i : Nat} (hn : rows.length = n) (hi : i < n) : (nthR rows i).length = m := (h i (by omega)).1
theorem basis_nil {p : Int} {m : Nat} : basisL p m [] = [] := by unfold basisL; rw [List.take_of_length_le (by rw [gaussS_len]; exact Nat.zero_le _)]; have := gaussS_len (p := p) (m := m) (rows := []) m; exact List.length_eq_zero_iff.1 this

theorem swapL_at {rows : List (List Int)} {d j : Nat} (hd : d < rows.length) (hj : j < rows.length) : nthR (swapL rows d j) d = nthR rows j := by
  rw [swapL_nth hd hj]
  by_cases h : d = j
  · subst h; rw [if_pos rfl]
  · rw [if_neg h, if_pos rfl]
end Go.Proofs.Ytcocbainookkcaa

/-
  Contract: multiples of lists, in the reference; a row brought up by two stores with calls between.
  No condition.
-/
namespace Go.Proofs.Ytcocbainookkcaa
set_option maxRecDepth 100000
open Go.RowKit


/-- Row d is stored at place i; later a new row at place d. -/
theorem OwnR.up {B : Nat} {w0 w2 : World} {g n cap : Nat} {rows : List (List Int)} {b : Option Addr} {m c : Nat} {xs : List Int} {i d : Nat} {ad : Option Addr} {cd : Nat}
    (h : OwnR B w0 (some ⟨g, 0, none⟩) n cap rows) (hi : i < n) (hd : d < n) (hc : w0.cell? ⟨g, d, none⟩ = some (.slice ad (nthR rows d).length cd))
    (he : Ext (w0.setCell ⟨g, i, none⟩ (.slice ad (nthR rows d).length cd)) w2) (hB : B ≤ w0.heap.size) (hx : OwnC w0.heap.size w2 b m c xs) :
    OwnR B (w2.setCell ⟨g, d, none⟩ (.slice b m c)) (some ⟨g, 0, none⟩) n cap ((rows.set i (nthR rows d)).set d xs) ∧ (∃ v, w2.cell? ⟨g, d, none⟩ = some v) ∧ w2.frozen? ⟨g, d, none⟩ = false := by
  obtain ⟨h1, vs, h2, hap, h4⟩ := h
  have hvl : vs.length = n := by have := h2.1; omega
  have vd : vs[d]? = some (.slice ad (nthR rows d).length cd) := by rw [← h2.cellAt d (by omega)]; exact hc
  have h3 := (h2.stored i (.slice ad (nthR rows d).length cd)).1
  have h3' := ownsRow_ext h3 he
  refine ⟨?_, ⟨_, (h3'.cellAt d (by omega)).trans (List.getElem?_eq_getElem (by simp; omega))⟩, h3'.frozenAt d⟩
  have h5 := (h3'.stored d (.slice b m c)).1
  have get : ∀ k, k < n → ((vs.set i (.slice ad (nthR rows d).length cd)).set d (.slice b m c))[k]? = if k = d then some (.slice b m c) else vs[if k = i then d else k]? := fun k hk => by
    by_cases hkd : k = d
    · subst hkd; rw [List.getElem?_set_self (by simp; omega), if_pos rfl]
    · rw [List.getElem?_set_ne (Ne.symm hkd), if_neg hkd]
      by_cases hki : k = i
      · subst hki; rw [List.getElem?_set_self (by omega), if_pos rfl, vd]
      · rw [List.getElem?_set_ne (Ne.symm hki), if_neg hki]
  have old : ∀ l n3 c3 g', l < n → vs[l]? = some (.slice (some ⟨g', 0, none⟩) n3 c3) → g' < w0.heap.size := fun l n3 c3 g' hl e => by
    obtain ⟨ai, ci, h5, h6⟩ := h4 l hl
    rw [h5] at e
    simp only [Option.some.injEq, Value.slice.injEq] at e
    exact (h6.base_of g' e.1).2
  refine ⟨by simpa using h1, _, h5, ?_, fun k hk => ?_⟩
  · intro k l g' n1 c1 n2 c2 hkl hk hl
    have lt : ∀ l n3 c3, ((vs.set i (.slice ad (nthR rows d).length cd)).set d (.slice b m c))[l]? = some (.slice (some ⟨g', 0, none⟩) n3 c3) → l < n := fun l n3 c3 e => by
      rcases Nat.lt_or_ge l n with h | h
      · exact h
      · rw [List.getElem?_eq_none (by simp; omega)] at e; cases e
    have hk' := lt _ _ _ hk
    have hl' := lt _ _ _ hl
    rw [get k hk'] at hk
    rw [get l hl'] at hl
    by_cases hkd : k = d
    · rw [if_pos hkd] at hk
      simp only [Option.some.injEq, Value.slice.injEq] at hk
      have h7 := (hx.base_of g' hk.1).1
      rw [if_neg (by omega)] at hl
      have h8 := old _ _ _ _ (by split <;> omega) hl
      omega
    · rw [if_neg hkd] at hk
      by_cases hld : l = d
      · rw [if_pos hld] at hl
        simp only [Option.some.injEq, Value.slice.injEq] at hl
        have h7 := (hx.base_of g' hl.1).1
        have h8 := old _ _ _ _ (by split <;> omega) hk
        omega
      · rw [if_neg hld] at hl
        refine hap _ _ g' _ _ _ _ ?_ hk hl
        split <;> split <;> omega
  · rw [get k hk, nthR_set (by simp; omega)]
    by_cases hkd : k = d
    · subst hkd
      rw [if_pos rfl, if_pos rfl, hx.1]
      exact ⟨b, c, rfl, (hx.mono hB).setOuter h3' _⟩
    · rw [if_neg hkd, if_neg (Ne.symm hkd), nthR_set (by omega)]
      have e : (if i = k then nthR rows d else nthR rows k) = nthR rows (if k = i then d else k) := by
        by_cases hki : k = i
        · subst hki; simp
        · rw [if_neg hki, if_neg (Ne.symm hki)]
      rw [e]
      obtain ⟨al, cl, h6, h7⟩ := h4 (if k = i then d else k) (by split <;> omega)
      exact ⟨al, cl, h6, ((h7.setOuter h2 _).ext he).setOuter h3' _⟩
theorem upG_eq {p : Int} {m : Nat} {rows : List (List Int)} {d k i : Nat} : upG p m rows d k i = (rows.set i (nthR rows d)).set d (scaleL p (nthR rows i) (invN p (nth (nthR rows i) k)) m) := by
  unfold upG swapL
  by_cases h : d = i
  · subst h; simp
  · rw [List.set_comm _ _ (by omega : i ≠ d), List.set_set, List.set_comm _ _ (by omega : d ≠ i)]

end Go.Proofs.Ytcocbainookkcaa

/-
  Contract: the reduced basis of rows, in the reference.
  No condition.
-/
namespace Go.Proofs.Ytcocbainookkcaa
set_option maxRecDepth 100000
open Go.RowKit

end Go.Proofs.Ytcocbainookkcaa

/-
  The listed function LeftIdealOf.
  No condition.
-/
namespace Go.Proofs.Ytcocbainookkcaa
set_option maxRecDepth 100000
open Go.RowKit

def idealL (p : Int) (qs x : List Int) : List (List Int) := basisL p (2 ^ qs.length) (turnL (matM p qs x false) (2 ^ qs.length) (2 ^ qs.length))
theorem turn_good {p : Int} {n m : Nat} {rows : List (List Int)} (h : RowsG p m rows) (hn : n = rows.length) : RowsG p n (turnL rows n m) := fun i hi => by
  rw [turnL_len] at hi
  rw [turnL_nth hi]
  exact ⟨colL_len _ _ _, fun j hj => by rw [colL_nth hj]; exact (h j (by omega)).2 i hi⟩
theorem ideal_cnt {p : Int} {qs x : List Int} (hp : primeB p = true) (hd : qs.length ≤ 6) : (idealL p qs x).length ≤ 1048576 ∧ cntR (idealL p qs x) (idealL p qs x).length ≤ 1048576 := by
  have hpb := prime_bd hp
  have h64 := pow_le64 hd
  obtain ⟨c, hb⟩ := basis_red hp (turn_good (matM_good (qs := qs) (x := x) (left := false) (show 1 ≤ p by omega)) (matM_len p qs x false).symm)
  have hl : (idealL p qs x).length ≤ 2 ^ qs.length := hb.len
  refine ⟨by omega, ?_⟩
  rw [cnt_good (show RowsG p (2 ^ qs.length) (idealL p qs x) from hb.good) _ (Nat.le_refl _)]
  exact Nat.le_trans (Nat.mul_le_mul hl (Nat.le_refl _)) (Nat.le_trans (Nat.mul_le_mul h64 h64) (by omega))




end Go.Proofs.Ytcocbainookkcaa

/-
  Matrices: checks, products, the listed functions of them at matrices.
  No condition.
-/
namespace Go.Proofs.Ytcocbainookkcaa
set_option maxRecDepth 100000
open Go.RowKit

/-- A row fits a table. -/
def rowOk (p : Int) (m : Nat) (r : List Int) : Bool := decide (r.length = m) && decide (1 ≤ r.length) && decide (r.length ≤ 16) && isB p r
def tableB (p : Int) (rows : List (List Int)) : Bool := decide (rows.length ≤ 16) && decide (∀ i, i < rows.length → rowOk p (nthR rows 0).length (nthR rows i) = true)
def matB (p : Int) (rows : List (List Int)) : Bool := decide (0 < rows.length) && tableB p rows
theorem table_big {p : Int} {rows : List (List Int)} (h : 16 < rows.length) : tableB p rows = false := by
  unfold tableB; rw [decide_eq_false (by omega)]; rfl
theorem table_not {p : Int} {rows : List (List Int)} {n k : Nat} (hk : k < n) (hn : rows.length = n) (h : rowOk p (nthR rows 0).length (nthR rows k) = false) : tableB p rows = false := by
  unfold tableB
  rw [decide_eq_false (p := ∀ i, i < rows.length → _) (fun ha => by have := ha k (by omega); rw [h] at this; cases this)]
  simp
theorem table_yes {p : Int} {rows : List (List Int)} {n : Nat} (hn : rows.length = n) (h16 : n ≤ 16) (h : ∀ k, k < n → rowOk p (nthR rows 0).length (nthR rows k) = true) : tableB p rows = true := by
  unfold tableB
  rw [decide_eq_true (by omega), decide_eq_true (by rw [hn]; exact h)]; rfl
theorem rowOk_of {p : Int} {m : Nat} {r : List Int} (h : rowOk p m r = true) : Good p m r ∧ 1 ≤ m ∧ m ≤ 16 := by
  unfold rowOk at h
  simp only [Bool.and_eq_true, decide_eq_true_eq] at h
  obtain ⟨⟨⟨h1, h2⟩, h3⟩, h4⟩ := h
  exact ⟨good_isB h1 h4, by omega, by omega⟩
theorem matB_of {p : Int} {rows : List (List Int)} (h : matB p rows = true) : 0 < rows.length ∧ rows.length ≤ 16 ∧ ∃ m, 1 ≤ m ∧ m ≤ 16 ∧ ∀ i, i < rows.length → Good p m (nthR rows i) := by
  unfold matB tableB at h
  simp only [Bool.and_eq_true, decide_eq_true_eq] at h
  obtain ⟨h1, h2, h3⟩ := h
  have h0 := rowOk_of (h3 0 h1)
  exact ⟨h1, h2, _, h0.2.1, h0.2.2, fun i hi => (rowOk_of (h3 i hi)).1⟩
theorem matB_good {p : Int} {rows : List (List Int)} {n m : Nat} (hn : rows.length = n) (h0 : 0 < n) (h16 : n ≤ 16) (hm : 1 ≤ m) (hm16 : m ≤ 16) (h : ∀ i, i < n → Good p m (nthR rows i)) : matB p rows = true := by
  unfold matB
  rw [decide_eq_true (by omega), table_yes hn h16 (fun k hk => ?_)]
  · rfl
  · have hk' := h k hk
    unfold rowOk
    rw [(h 0 h0).1, hk'.1, good_bits hk', decide_eq_true rfl, decide_eq_true hm, decide_eq_true hm16]; rfl


/-! ### Products -/
/-- A matrix and a vector. -/
def appL (p : Int) (rows : List (List Int)) (v : List Int) (m n : Nat) : List Int := (List.range n).map fun i => dotL p (nthR rows i) v m
theorem appL_succ (p : Int) (rows : List (List Int)) (v : List Int) (m n : Nat) : appL p rows v m (n + 1) = appL p rows v m n ++ [dotL p (nthR rows n) v m] := by simp [appL, List.range_succ]
theorem appL_len (p : Int) (rows : List (List Int)) (v : List Int) (m n : Nat) : (appL p rows v m n).length = n := by simp [appL]
theorem appL_nth {p : Int} {rows : List (List Int)} {v : List Int} {m n i : Nat} (h : i < n) : nth (appL p rows v m n) i = dotL p (nthR rows i) v m := by
  unfold appL; rw [nth_map (by simpa using h)]; simp
theorem dotL_bd {p : Int} {x y : List Int} {n : Nat} (hp : 1 ≤ p) : 0 ≤ dotL p x y n ∧ dotL p x y n < p := ⟨Int.emod_nonneg _ (by omega), Int.emod_lt_of_pos _ (by omega)⟩
theorem app_good {p : Int} {rows : List (List Int)} {v : List Int} {m n : Nat} (hp : 1 ≤ p) : Good p n (appL p rows v m n) := ⟨appL_len _ _ _ _ _, fun i hi => by rw [appL_nth hi]; exact dotL_bd hp⟩
/-- The product of matrices: n rows, k columns, m in between. -/
def mulL (p : Int) (a b : List (List Int)) (n m k : Nat) : List (List Int) := (List.range n).map fun i => appL p (turnL b m k) (nthR a i) m k
theorem mulL_succ (p : Int) (a b : List (List Int)) (n m k : Nat) : mulL p a b (n + 1) m k = mulL p a b n m k ++ [appL p (turnL b m k) (nthR a n) m k] := by simp [mulL, List.range_succ]
theorem mulL_len (p : Int) (a b : List (List Int)) (n m k : Nat) : (mulL p a b n m k).length = n := by simp [mulL]
theorem mulL_nth {p : Int} {a b : List (List Int)} {n m k i : Nat} (h : i < n) : nthR (mulL p a b n m k) i = appL p (turnL b m k) (nthR a i) m k := by
  unfold mulL; rw [nthR_map (by simpa using h)]; simp
theorem mul_good {p : Int} {a b : List (List Int)} {n m k : Nat} (hp : 1 ≤ p) : ∀ i, i < n → Good p k (nthR (mulL p a b n m k) i) := fun i hi => by
  rw [mulL_nth hi]; exact app_good hp


end Go.Proofs.Ytcocbainookkcaa

/-
  Isometries of a space and inverses of matrices, in plain numbers.
  No condition. No program in sight.
-/
namespace Go.Proofs.Ytcocbainookkcaa
set_option maxRecDepth 100000
open Go.RowKit

theorem pairL_comm {p : Int} {qs v u : List Int} {n : Nat} : pairL p qs v u n = pairL p qs u v n := by
  unfold pairL dotL
  have h : ∀ k, k ≤ n → dotS (wtL p qs v n) u k % p = dotS (wtL p qs u n) v k % p := by
    intro k
    induction k with
    | zero => intro _; rfl
    | succ k ih =>
      intro hk
      simp only [dotS]
      rw [Int.add_emod, ih (by omega), wtL_nth (by omega), wtL_nth (by omega)]
      conv => rhs; rw [Int.add_emod]
      congr 2
      unfold wtN
      rw [Int.mul_emod, Int.emod_emod, ← Int.mul_emod]
      conv => rhs; rw [Int.mul_emod, Int.emod_emod, ← Int.mul_emod]
      congr 1
      rw [Int.mul_assoc, Int.mul_comm (nth v k), Int.mul_assoc, Int.mul_comm (nth u k), Int.mul_comm (nth u k), Int.mul_assoc, Int.mul_comm (nth v k), ← Int.mul_assoc]
  exact h n (Nat.le_refl _)

/-- The product that two columns must have. -/
def wantN (qs : List Int) (i k : Nat) : Int := if i = k then nth qs i else 0
def isoAt (p : Int) (qs : List Int) (cols : List (List Int)) (d i k : Nat) : Prop := pairL p qs (nthR cols i) (nthR cols k) d = wantN qs i k
instance (p : Int) (qs : List Int) (cols : List (List Int)) (d i k : Nat) : Decidable (isoAt p qs cols d i k) := inferInstanceAs (Decidable (_ = _))
def isoB (p : Int) (qs : List Int) (rows : List (List Int)) (d : Nat) : Bool :=
  matB p rows && decide (rows.length = d) && decide ((nthR rows 0).length = d) && decide (detL p d rows ≠ 0) && decide (∀ i, i < d → ∀ k, k < d → isoAt p qs (turnL rows d d) d i k)
theorem isoAt_comm {p : Int} {qs : List Int} {cols : List (List Int)} {d i k : Nat} : isoAt p qs cols d i k ↔ isoAt p qs cols d k i := by
  unfold isoAt wantN
  rw [pairL_comm]
  by_cases h : i = k
  · subst h; exact Iff.rfl
  · rw [if_neg h, if_neg (Ne.symm h)]
theorem isoB_yes {p : Int} {qs : List Int} {rows : List (List Int)} {d : Nat} (hm : matB p rows = true) (hn : rows.length = d) (h0 : (nthR rows 0).length = d) (hd : detL p d rows ≠ 0) (h : ∀ i, i < d → ∀ k, k < d → isoAt p qs (turnL rows d d) d i k) : isoB p qs rows d = true := by
  unfold isoB
  rw [hm, decide_eq_true hn, decide_eq_true h0, decide_eq_true hd, decide_eq_true h]; rfl
theorem isoB_yes2 {p : Int} {qs : List Int} {rows : List (List Int)} {d : Nat} (hm : matB p rows = true) (hn : rows.length = d) (h0 : (nthR rows 0).length = d) (hd : detL p d rows ≠ 0) (h : ∀ i, i < d → ∀ k, k < i + 1 → isoAt p qs (turnL rows d d) d i k) : isoB p qs rows d = true := by
  refine isoB_yes hm hn h0 hd fun i hi k hk => ?_
  by_cases hki : k < i + 1
  · exact h i hi k hki
  · exact isoAt_comm.1 (h k hk i (by omega))
theorem isoB_mat {p : Int} {qs : List Int} {rows : List (List Int)} {d : Nat} (h : matB p rows = false) : isoB p qs rows d = false := by unfold isoB; rw [h]; rfl
theorem isoB_len {p : Int} {qs : List Int} {rows : List (List Int)} {d : Nat} (h : rows.length ≠ d) : isoB p qs rows d = false := by unfold isoB; rw [decide_eq_false h]; simp
theorem isoB_wid {p : Int} {qs : List Int} {rows : List (List Int)} {d : Nat} (h : (nthR rows 0).length ≠ d) : isoB p qs rows d = false := by unfold isoB; rw [decide_eq_false h]; simp
theorem isoB_det {p : Int} {qs : List Int} {rows : List (List Int)} {d : Nat} (h : detL p d rows = 0) : isoB p qs rows d = false := by unfold isoB; rw [decide_eq_false (p := detL p d rows ≠ 0) (by simp [h])]; simp
theorem isoB_at {p : Int} {qs : List Int} {rows : List (List Int)} {d i k : Nat} (hi : i < d) (hk : k < d) (h : ¬ isoAt p qs (turnL rows d d) d i k) : isoB p qs rows d = false := by
  unfold isoB; rw [decide_eq_false (p := ∀ i, i < d → ∀ k, k < d → isoAt p qs (turnL rows d d) d i k) (fun ha => h (ha i hi k hk))]; simp
theorem isoB_of {p : Int} {qs : List Int} {rows : List (List Int)} {d : Nat} (h : isoB p qs rows d = true) : matB p rows = true ∧ rows.length = d ∧ (nthR rows 0).length = d ∧ detL p d rows ≠ 0 ∧ ∀ i, i < d → ∀ k, k < d → isoAt p qs (turnL rows d d) d i k := by
  unfold isoB at h
  simp only [Bool.and_eq_true, decide_eq_true_eq] at h
  obtain ⟨⟨⟨⟨h1, h2⟩, h3⟩, h4⟩, h5⟩ := h
  exact ⟨h1, h2, h3, h4, h5⟩
/-- A matrix all of whose rows have the length of the first one. -/
theorem mat_good {p : Int} {rows : List (List Int)} {d : Nat} (h : matB p rows = true) (h0 : (nthR rows 0).length = d) : RowsG p d rows := by
  obtain ⟨h1, _, m, _, _, hg⟩ := matB_of h
  have : d = m := by rw [← h0]; exact (hg 0 h1).1
  subst this
  exact hg
theorem frame_good {p : Int} {rows : List (List Int)} {d : Nat} (hm : matB p rows = true) (_hn : rows.length = d) (h0 : (nthR rows 0).length = d) : ∀ i, i < d → (nthR rows i).length = d := fun i hi => (mat_good hm h0 i (by omega)).1

/-! ### Inverses -/
def wideM (A : List (List Int)) (n k : Nat) : List (List Int) := (List.range k).map fun i => nthR A i ++ bladeL n i
theorem wideM_succ (A : List (List Int)) (n k : Nat) : wideM A n (k + 1) = wideM A n k ++ [nthR A k ++ bladeL n k] := by simp [wideM, List.range_succ]
theorem wideM_len (A : List (List Int)) (n k : Nat) : (wideM A n k).length = k := by simp [wideM]
theorem wideM_nth {A : List (List Int)} {n k i : Nat} (h : i < k) : nthR (wideM A n k) i = nthR A i ++ bladeL n i := by
  unfold wideM; rw [nthR_map (by simpa using h)]; simp
theorem good_append {p : Int} {n m : Nat} {x y : List Int} (hx : Good p n x) (hy : Good p m y) : Good p (n + m) (x ++ y) := by
  refine ⟨by rw [List.length_append, hx.1, hy.1], fun i hi => ?_⟩
  by_cases h : i < n
  · rw [nth_append_left (by rw [hx.1]; exact h)]; exact hx.2 i h
  · have : nth (x ++ y) i = nth y (i - n) := by
      unfold nth
      rw [List.getD_eq_getElem?_getD, List.getD_eq_getElem?_getD, List.getElem?_append_right (by rw [hx.1]; omega), hx.1]
    rw [this]; exact hy.2 _ (by omega)
theorem wideM_good {p : Int} {A : List (List Int)} {n : Nat} (hp : 3 ≤ p) (hg : RowsG p n A) (hn : A.length = n) : RowsG p (n + n) (wideM A n n) := fun i hi => by
  rw [wideM_len] at hi
  rw [wideM_nth hi]
  exact good_append (hg i (by omega)) (blade_good hp)
theorem clr_cut {p : Int} {n m k d : Nat} {U V : List (List Int)} (hnm : n ≤ m) (hk : k < n) (hl : U.length = V.length) (h : ∀ j t, t < n → nth (nthR U j) t = nth (nthR V j) t) : ∀ j t, t < n → nth (nthR (clrS p k m d U U.length) j) t = nth (nthR (clrS p k n d V V.length) j) t := by
  intro j t ht
  rw [clrS_nth _ (Nat.le_refl _), clrS_nth _ (Nat.le_refl _), hl]
  split
  · rw [plusL_nth (by omega), plusL_nth ht, plusN, plusN, h j t ht, h d t ht, h j k hk]
  · exact h j t ht
theorem up_cut {p : Int} {n m k d i : Nat} {R S : List (List Int)} (hnm : n ≤ m) (hk : k < n) (hl : R.length = S.length) (hd : d < R.length) (hi : i < R.length) (h : ∀ j t, t < n → nth (nthR R j) t = nth (nthR S j) t) : ∀ j t, t < n → nth (nthR (upG p m R d k i) j) t = nth (nthR (upG p n S d k i) j) t := by
  intro j t ht
  rw [upG_nth hd hi, upG_nth (by omega) (by omega)]
  split
  · rw [scaleL_nth (by omega), scaleL_nth ht, scaleN, scaleN, h i t ht, h i k hk]
  · split
    · exact h d t ht
    · exact h j t ht
theorem piv_cut {n k d : Nat} {R S : List (List Int)} (hk : k < n) (hl : R.length = S.length) (hd : d ≤ R.length) (h : ∀ j t, t < n → nth (nthR R j) t = nth (nthR S j) t) : pivG R k d = pivG S k d := by
  obtain ⟨h1, h2, h3, h4⟩ := pivG_spec S k d (by omega)
  refine pivG_eq h1 (by omega) (fun j hj hj2 => by rw [h j k hk]; exact h3 j hj hj2) ?_
  rcases h4 with h4 | h4
  · exact .inl (by omega)
  · exact .inr (by rw [h _ k hk]; exact h4)
/-- Elimination with wide rows does at the first places what elimination with these places alone does. -/
theorem gauss_cut {p : Int} {n m : Nat} {A W : List (List Int)} (hp : primeB p = true) (hgA : RowsG p n A) (hgW : RowsG p m W) (hnm : n ≤ m) (hl : W.length = A.length) (h : ∀ j t, t < n → nth (nthR W j) t = nth (nthR A j) t) :
    ∀ k, k ≤ n → (gaussS p m W k).2 = (gaussS p n A k).2 ∧ ∀ j t, t < n → nth (nthR (gaussS p m W k).1 j) t = nth (nthR (gaussS p n A k).1 j) t
  | 0, _ => ⟨rfl, h⟩
  | k + 1, hk => by
    obtain ⟨e1, e2⟩ := gauss_cut hp hgA hgW hnm hl h k (by omega)
    obtain ⟨_, cW, rW⟩ := gaussS_red hp hgW k (by omega)
    have lW := gaussS_len (p := p) (m := m) (rows := W) k
    have lA := gaussS_len (p := p) (m := n) (rows := A) k
    have hd := rW.dle
    have hpv := piv_cut (n := n) (k := k) (d := (gaussS p m W k).2) (by omega) (show (gaussS p m W k).1.length = (gaussS p n A k).1.length by omega) hd e2
    show (stepG p m (gaussS p m W k) k).2 = (stepG p n (gaussS p n A k) k).2 ∧ ∀ j t, t < n → nth (nthR (stepG p m (gaussS p m W k) k).1 j) t = nth (nthR (stepG p n (gaussS p n A k) k).1 j) t
    obtain ⟨p1, p2, _, _⟩ := pivG_spec (gaussS p m W k).1 k _ hd
    by_cases hno : pivG (gaussS p m W k).1 k (gaussS p m W k).2 = (gaussS p m W k).1.length
    · rw [stepG_no hno, stepG_no (by rw [← e1, ← hpv, hno]; omega)]
      exact ⟨e1, e2⟩
    · have hi : pivG (gaussS p m W k).1 k (gaussS p m W k).2 < (gaussS p m W k).1.length := by omega
      rw [stepG_yes rfl hi, stepG_yes (s := gaussS p n A k) (k := k) (i := pivG (gaussS p m W k).1 k (gaussS p m W k).2) (by rw [← e1]; exact hpv.symm) (by omega)]
      refine ⟨by show _ + 1 = _ + 1; rw [e1], ?_⟩
      have hu := up_cut (p := p) (n := n) (m := m) (k := k) (d := (gaussS p m W k).2) (i := pivG (gaussS p m W k).1 k (gaussS p m W k).2) hnm (by omega) (show (gaussS p m W k).1.length = (gaussS p n A k).1.length by omega) (by omega) hi e2
      have h9 := clr_cut (p := p) (n := n) (m := m) (k := k) (d := (gaussS p m W k).2) hnm (by omega) (by rw [upG_len, upG_len]; omega) hu
      intro j t ht
      have h8 := h9 j t ht
      rw [upG_len, upG_len] at h8
      rw [← e1]
      exact h8
/-- The rows of the reduced basis of the wide rows. -/
def invW (p : Int) (n : Nat) (A : List (List Int)) : List (List Int) := basisL p (n + n) (wideM A n n)
theorem invW_cut {p : Int} {n : Nat} {A : List (List Int)} (hg : RowsG p n A) (hn : A.length = n) : ∀ j t, t < n → nth (nthR (wideM A n n) j) t = nth (nthR A j) t := fun j t ht => by
  by_cases hj : j < n
  · rw [wideM_nth hj, nth_append_left (by rw [(hg j (by omega)).1]; exact ht)]
  · have e1 : nthR (wideM A n n) j = [] := by unfold nthR; rw [List.getD_eq_getElem?_getD, List.getElem?_eq_none (by rw [wideM_len]; omega)]; rfl
    have e2 : nthR A j = [] := by unfold nthR; rw [List.getD_eq_getElem?_getD, List.getElem?_eq_none (by omega)]; rfl
    rw [e1, e2]
theorem invW_good {p : Int} {n : Nat} {A : List (List Int)} (hp : primeB p = true) (hg : RowsG p n A) (hn : A.length = n) : RowsG p (n + n) (invW p n A) := by
  have hpb := prime_bd hp
  obtain ⟨c, hb⟩ := basis_red hp (wideM_good (by omega) hg hn)
  exact hb.good
theorem invW_yes {p : Int} {n : Nat} {A : List (List Int)} (hp : primeB p = true) (hg : RowsG p n A) (hn : A.length = n) (hd : detL p n A ≠ 0) (h0 : 0 < n) : (invW p n A).length = n ∧ leadN (nthR (invW p n A) (n - 1)) < n := by
  have hpb := prime_bd hp
  have hgW := wideM_good (p := p) (by omega) hg hn
  have hr := (det_rank hp hg hn).1 hd
  unfold rankL at hr
  obtain ⟨e1, _⟩ := gauss_cut hp hg hgW (by omega) (by rw [wideM_len, hn]) (invW_cut hg hn) n (Nat.le_refl _)
  rw [hr] at e1
  obtain ⟨_, c, hred⟩ := gaussS_red hp hgW n (by omega)
  have hst := gaussS_stop (p := p) (m := n + n) (rows := wideM A n n) (k := n) (by rw [e1, wideM_len]) n
  have hgl := gaussS_len (p := p) (m := n + n) (rows := wideM A n n) n
  rw [wideM_len] at hgl
  have hbe : invW p n A = (gaussS p (n + n) (wideM A n n) n).1 := by
    unfold invW basisL
    rw [hst, e1, List.take_of_length_le (by omega)]
  rw [hbe]
  refine ⟨hgl, ?_⟩
  have hlt := hred.clt (n - 1) (by omega)
  have h1 := hred.one (n - 1) (by omega) (n - 1) (by omega)
  rw [if_pos rfl] at h1
  have hgn := (gaussS_red hp hgW n (by omega)).1 (n - 1) (by omega)
  rw [leadN_eq (k := c (n - 1)) (by rw [hgn.1]; omega) (hred.lead _ (by omega)) (.inr (by rw [h1]; decide))]
  exact hlt
theorem mono_id {n : Nat} {c : Nat → Nat} (hm : ∀ i j, i < j → j < n → c i < c j) : ∀ i, i < n → i ≤ c i
  | 0, _ => Nat.zero_le _
  | i + 1, h => by
    have h1 := mono_id hm i (by omega)
    have h2 := hm i (i + 1) (by omega) h
    omega
theorem mono_up {n : Nat} {c : Nat → Nat} (hm : ∀ i j, i < j → j < n → c i < c j) (h0 : 0 < n) : ∀ j, j < n → c (n - 1 - j) + j ≤ c (n - 1)
  | 0, _ => by simp
  | j + 1, h => by
    have h1 := mono_up hm h0 j (by omega)
    have h2 := hm (n - 1 - (j + 1)) (n - 1 - j) (by omega) (by omega)
    omega
theorem dotN_append {p : Int} {n m : Nat} {x y z : List Int} (hx : x.length = n) (hz : z.length = n) : dotN (n + m) (x ++ y) (z ++ List.replicate m 0) % p = dotN n x z % p := by
  unfold dotN
  have h : ∀ k, k ≤ m → sumN (n + k) (fun t => nth (x ++ y) t * nth (z ++ List.replicate m 0) t) = sumN n (fun t => nth x t * nth z t) := by
    intro k
    induction k with
    | zero =>
      intro _
      exact sumN_congr fun t ht => by rw [nth_append_left (by omega), nth_append_left (by omega)]
    | succ k ih =>
      intro hk
      show sumN (n + k) _ + nth (x ++ y) (n + k) * nth (z ++ List.replicate m 0) (n + k) = _
      rw [ih (by omega)]
      have : nth (z ++ List.replicate m (0 : Int)) (n + k) = 0 := by
        unfold nth
        rw [List.getD_eq_getElem?_getD, List.getElem?_append_right (by omega), List.getElem?_replicate]
        split <;> rfl
      rw [this, Int.mul_zero, Int.add_zero]
  rw [h m (Nat.le_refl _)]
theorem invW_no {p : Int} {n : Nat} {A : List (List Int)} (hp : primeB p = true) (hg : RowsG p n A) (hn : A.length = n) (hd : detL p n A = 0) (hl : (invW p n A).length = n) : n ≤ leadN (nthR (invW p n A) (n - 1)) := by
  have hpb := prime_bd hp
  have hgW := wideM_good (p := p) (by omega) hg hn
  have hr : rankL p n A < n := by
    have h1 := gauss_rank hp hg
    have h2 : rankL p n A ≠ n := fun h => (det_rank hp hg hn).2 h hd
    have : rankL p n A ≤ n := h1.2
    omega
  obtain ⟨z, f, hz, hk, hf, hzf⟩ := ker_exists hp hg hr
  obtain ⟨c, hb⟩ := basis_red (m := n + n) hp hgW
  have hb' : Basis p (n + n) (invW p n A) c := hb
  rw [hb'.leadN (by omega)]
  refine Nat.le_of_not_lt fun hc => ?_
  have hid : ∀ i, i < n → c i = i := fun i hi => by
    have h1 := mono_id (n := n) (fun i j a b => hb'.mono i j a (by omega)) i hi
    have h2 := mono_up (n := n) (fun i j a b => hb'.mono i j a (by omega)) (by omega) (n - 1 - i) (by omega)
    rw [show n - 1 - (n - 1 - i) = i by omega] at h2
    omega
  have hkW : Kill p (n + n) (wideM A n n) (z ++ List.replicate n 0) := fun i hi => by
    rw [wideM_len] at hi
    rw [wideM_nth hi, dotN_append (hg i (by omega)).1 hz.1]
    exact hk i (by omega)
  have hkB := (kill_basis hp hgW).2 hkW
  have h1 := hkB f (by show f < (invW p n A).length; omega)
  have hsum : dotN (n + n) (nthR (invW p n A) f) (z ++ List.replicate n 0) = nth z f := by
    unfold dotN
    have hs : ∀ k, k ≤ n + n → sumN k (fun t => nth (nthR (invW p n A) f) t * nth (z ++ List.replicate n 0) t) = if f < k then nth z f else 0 := by
      intro k
      induction k with
      | zero => intro _; rfl
      | succ k ih =>
        intro hk
        show sumN k _ + nth (nthR (invW p n A) f) k * nth (z ++ List.replicate n 0) k = _
        rw [ih (by omega)]
        by_cases hkn : k < n
        · have ho := hb'.one k (by omega) f (by omega)
          rw [hid k hkn] at ho
          rw [ho, nth_append_left (by rw [hz.1]; exact hkn)]
          by_cases hfk : f = k
          · subst hfk; rw [if_neg (by omega), if_pos rfl, if_pos (by omega)]; omega
          · rw [if_neg hfk, Int.zero_mul, Int.add_zero]
            by_cases hlt : f < k
            · rw [if_pos hlt, if_pos (by omega)]
            · rw [if_neg hlt, if_neg (by omega)]
        · have e0 : nth (z ++ List.replicate n (0 : Int)) k = 0 := by
            unfold nth
            rw [List.getD_eq_getElem?_getD, List.getElem?_append_right (by rw [hz.1]; omega), List.getElem?_replicate]
            split <;> rfl
          rw [e0, Int.mul_zero, Int.add_zero, if_pos (by omega), if_pos (by omega)]
    rw [hs (n + n) (Nat.le_refl _), if_pos (by omega)]
  rw [show nthR (basisL p (n + n) (wideM A n n)) f = nthR (invW p n A) f from rfl, hsum, hzf, Int.emod_eq_of_lt (by omega) (by omega)] at h1
  cases h1
/-- The inverse: the wide rows' last halves. -/
def cutM (rows : List (List Int)) (n k : Nat) : List (List Int) := (List.range k).map fun i => (nthR rows i).drop n
theorem cutM_succ (rows : List (List Int)) (n k : Nat) : cutM rows n (k + 1) = cutM rows n k ++ [(nthR rows k).drop n] := by simp [cutM, List.range_succ]
theorem cutM_len (rows : List (List Int)) (n k : Nat) : (cutM rows n k).length = k := by simp [cutM]
theorem cutM_nth {rows : List (List Int)} {n k i : Nat} (h : i < k) : nthR (cutM rows n k) i = (nthR rows i).drop n := by
  unfold cutM; rw [nthR_map (by simpa using h)]; simp
theorem drop_nth {x : List Int} {n i : Nat} : nth (x.drop n) i = nth x (n + i) := by
  unfold nth; rw [List.getD_eq_getElem?_getD, List.getD_eq_getElem?_getD, List.getElem?_drop]
theorem drop_good {p : Int} {n m : Nat} {x : List Int} (h : Good p (n + m) x) : Good p m (x.drop n) := ⟨by rw [List.length_drop, h.1]; omega, fun i hi => by rw [drop_nth]; exact h.2 _ (by omega)⟩
def invM (p : Int) (n : Nat) (A : List (List Int)) : List (List Int) := cutM (invW p n A) n n
theorem invM_good {p : Int} {n : Nat} {A : List (List Int)} (hp : primeB p = true) (hg : RowsG p n A) (hn : A.length = n) (hl : (invW p n A).length = n) : RowsG p n (invM p n A) := fun i hi => by
  unfold invM at hi ⊢
  rw [cutM_len] at hi
  rw [cutM_nth hi]
  exact drop_good (invW_good hp hg hn i (by omega))
end Go.Proofs.Ytcocbainookkcaa

/-
  Reflections keep the products of the columns, in plain numbers.
  No condition. No program in sight.
-/
namespace Go.Proofs.Ytcocbainookkcaa
set_option maxRecDepth 100000
open Go.RowKit

/-- The product of two vectors, not reduced. -/
def quadS (n : Nat) (qs v w : List Int) : Int := sumN n fun t => nth v t * nth qs t * nth w t
theorem dot_sumN (x y : List Int) : ∀ n, dotS x y n = sumN n fun i => nth x i * nth y i
  | 0 => rfl
  | n + 1 => by simp only [dotS, sumN]; rw [dot_sumN x y n]
theorem pair_quad {p : Int} {qs v w : List Int} {n : Nat} : pairL p qs v w n = quadS n qs v w % p := by
  unfold pairL dotL quadS
  rw [dot_sumN]
  exact sumN_emod fun i hi => by rw [wtL_nth hi, wtN, Int.mul_emod, Int.emod_emod, ← Int.mul_emod]
theorem quad_comm (n : Nat) (qs v w : List Int) : quadS n qs v w = quadS n qs w v := by
  unfold quadS; exact sumN_congr fun i _ => by grind
theorem mul3_emod {p a a' b c c' : Int} (h : a % p = a' % p) (h2 : c % p = c' % p) : a * b * c % p = a' * b * c' % p := by
  rw [Int.mul_emod, Int.mul_emod a, h, h2, ← Int.mul_emod a', ← Int.mul_emod]
theorem quad_expand (n : Nat) (qs u x y : List Int) (A B : Int) : sumN n (fun t => (nth x t - A * nth u t) * nth qs t * (nth y t - B * nth u t)) = quadS n qs x y - B * quadS n qs x u - A * quadS n qs u y + A * B * quadS n qs u u := by
  have h : ∀ t, (nth x t - A * nth u t) * nth qs t * (nth y t - B * nth u t) = (nth x t * nth qs t * nth y t + (-B) * (nth x t * nth qs t * nth u t)) + ((-A) * (nth u t * nth qs t * nth y t) + (A * B) * (nth u t * nth qs t * nth u t)) := fun t => by grind
  rw [sumN_congr fun t _ => h t, sumN_add, sumN_add, sumN_add, sumN_mul, sumN_mul, sumN_mul]
  unfold quadS
  grind
theorem refl_keep {p c : Int} {n : Nat} {qs u x y x' y' : List Int} (hc : c * quadS n qs u u % p = 2 % p) (hx : ∀ t, t < n → nth x' t % p = (nth x t - c * quadS n qs u x * nth u t) % p) (hy : ∀ t, t < n → nth y' t % p = (nth y t - c * quadS n qs u y * nth u t) % p) : quadS n qs x' y' % p = quadS n qs x y % p := by
  have h1 : quadS n qs x' y' % p = sumN n (fun t => (nth x t - c * quadS n qs u x * nth u t) * nth qs t * (nth y t - c * quadS n qs u y * nth u t)) % p := by
    unfold quadS
    exact sumN_emod fun t ht => mul3_emod (hx t ht) (hy t ht)
  obtain ⟨z, hz⟩ : ∃ z, c * quadS n qs u u - 2 = p * z := Int.dvd_of_emod_eq_zero (by rw [Int.sub_emod, hc, Int.sub_self, Int.zero_emod])
  rw [h1, quad_expand, quad_comm n qs x u, show quadS n qs x y - c * quadS n qs u y * quadS n qs u x - c * quadS n qs u x * quadS n qs u y + c * quadS n qs u x * (c * quadS n qs u y) * quadS n qs u u = quadS n qs x y + p * (z * (c * quadS n qs u x * quadS n qs u y)) by
    have : c * quadS n qs u u = 2 + p * z := by omega
    grind, Int.add_mul_emod_self_left]

/-- The factor of a reflection, the reflected vector, the matrix of a reflection. -/
def reflK (p : Int) (qs u v : List Int) (d : Nat) : Int := -2 * pairL p qs u v d * invN p (pairL p qs u u d)
def reflL (p : Int) (qs u v : List Int) (d : Nat) : List Int := plusL p v u (reflK p qs u v d) d
def reflC (p : Int) (qs u : List Int) (d k : Nat) : List (List Int) := (List.range k).map fun i => reflL p qs u (bladeL d i) d
theorem reflC_succ (p : Int) (qs u : List Int) (d k : Nat) : reflC p qs u d (k + 1) = reflC p qs u d k ++ [reflL p qs u (bladeL d k) d] := by simp [reflC, List.range_succ]
theorem reflC_len (p : Int) (qs u : List Int) (d k : Nat) : (reflC p qs u d k).length = k := by simp [reflC]
theorem reflC_nth {p : Int} {qs u : List Int} {d k i : Nat} (h : i < k) : nthR (reflC p qs u d k) i = reflL p qs u (bladeL d i) d := by
  unfold reflC; rw [nthR_map (by simpa using h)]; simp
theorem reflC_good {p : Int} {qs u : List Int} {d k : Nat} (hp : 1 ≤ p) : RowsG p d (reflC p qs u d k) := fun i hi => by
  rw [reflC_len] at hi
  rw [reflC_nth hi]; exact plus_good hp
def reflM (p : Int) (qs u : List Int) (d : Nat) : List (List Int) := turnL (reflC p qs u d d) d d
theorem reflM_len (p : Int) (qs u : List Int) (d : Nat) : (reflM p qs u d).length = d := turnL_len ..
theorem reflM_good {p : Int} {qs u : List Int} {d : Nat} (hp : 1 ≤ p) : RowsG p d (reflM p qs u d) := turn_good (fun j hj => reflC_good hp j hj) (reflC_len ..).symm

/-- The products of the columns are those of the basis. -/
def isoM (p : Int) (qs : List Int) (m : List (List Int)) (d : Nat) : Prop := ∀ i, i < d → ∀ k, k < d → pairL p qs (colL m i d) (colL m k d) d = wantN qs i k
theorem isoM_of {p : Int} {qs : List Int} {rows : List (List Int)} {d : Nat} (h : isoB p qs rows d = true) : isoM p qs rows d := fun i hi k hk => by
  have := (isoB_of h).2.2.2.2 i hi k hk
  unfold isoAt at this
  rwa [turnL_nth hi, turnL_nth hk] at this
theorem quad_blade {n : Nat} {qs u : List Int} {j : Nat} (hj : j < n) : quadS n qs u (bladeL n j) = nth u j * nth qs j := by
  unfold quadS
  rw [sumN_single hj fun i hi hne => by rw [bladeL_nth hj hi, if_neg (by omega), Int.mul_zero], bladeL_nth hj hj, if_pos rfl, Int.mul_one]
theorem reflM_at {p : Int} {qs u : List Int} {d t j : Nat} (ht : t < d) (hj : j < d) : nth (nthR (reflM p qs u d) t) j % p = ((if j = t then 1 else 0) - 2 * invN p (pairL p qs u u d) * (nth u j * nth qs j) * nth u t) % p := by
  unfold reflM
  rw [turnL_nth ht, colL_nth hj, reflC_nth hj]
  unfold reflL
  rw [plusL_nth ht, plusN, Int.emod_emod, bladeL_nth hj ht, reflK, pair_quad (v := u) (w := bladeL d j), quad_blade hj]
  rw [show (-2 * (nth u j * nth qs j % p) * invN p (pairL p qs u u d) * nth u t) = (nth u j * nth qs j % p) * (-2 * invN p (pairL p qs u u d) * nth u t) by grind]
  rw [Int.add_emod, Int.mul_emod, Int.emod_emod, ← Int.mul_emod, ← Int.add_emod]
  congr 1
  grind
theorem mul_col {p : Int} {qs u : List Int} {m : List (List Int)} {d i t : Nat} (hi : i < d) (ht : t < d) : nth (colL (mulL p (reflM p qs u d) m d d d) i d) t % p = (nth (colL m i d) t - 2 * invN p (pairL p qs u u d) * quadS d qs u (colL m i d) * nth u t) % p := by
  rw [colL_nth ht, mulL_nth ht, appL_nth hi, turnL_nth hi]
  unfold dotL
  rw [Int.emod_emod, dot_sumN]
  have h : sumN d (fun j => nth (colL m i d) j * nth (nthR (reflM p qs u d) t) j) % p = sumN d (fun j => nth (colL m i d) j * (if j = t then 1 else 0) + (-(2 * invN p (pairL p qs u u d) * nth u t)) * (nth u j * nth qs j * nth (colL m i d) j)) % p :=
    sumN_emod fun j hj => by
      rw [Int.mul_emod, reflM_at ht hj, ← Int.mul_emod]
      congr 1
      grind
  rw [h, sumN_add, sumN_mul, sumN_single ht fun j hj hne => by rw [if_neg (by omega), Int.mul_zero], if_pos rfl]
  unfold quadS
  congr 1
  grind
theorem refl_iso {p : Int} {qs u : List Int} {m : List (List Int)} {d : Nat} (hp : primeB p = true) (hu : pairL p qs u u d ≠ 0) (h : isoM p qs m d) : isoM p qs (mulL p (reflM p qs u d) m d d d) d := fun i hi k hk => by
  have hpb := prime_bd hp
  have hb := pairL_bd (p := p) (qs := qs) (v := u) (w := u) (n := d) (by omega)
  have hc : 2 * invN p (pairL p qs u u d) * quadS d qs u u % p = 2 % p := by
    have h1 := (inv_spec hp (a := pairL p qs u u d) (by omega) hb.2).2.1
    rw [pair_quad, Int.mul_emod, Int.emod_emod, ← Int.mul_emod] at h1
    rw [← pair_quad] at h1
    rw [show 2 * invN p (pairL p qs u u d) * quadS d qs u u = 2 * (quadS d qs u u * invN p (pairL p qs u u d)) by grind, Int.mul_emod, h1, Int.mul_one, Int.emod_emod]
  rw [← h i hi k hk, pair_quad, pair_quad]
  exact refl_keep hc (fun t ht => mul_col hi ht) (fun t ht => mul_col hk ht)
/-- Where the difference has no norm, the sum has one. -/
theorem more_ne {p : Int} {qs w : List Int} {d i : Nat} (hp : primeB p = true) (hi : i < d) (hq : nth qs i % p ≠ 0) (hw : pairL p qs w w d = nth qs i) (hz : pairL p qs (plusL p w (bladeL d i) (-1) d) (plusL p w (bladeL d i) (-1) d) d = 0) : pairL p qs (plusL p w (bladeL d i) 1 d) (plusL p w (bladeL d i) 1 d) d ≠ 0 := by
  intro h1
  have hpb := prime_bd hp
  have ex : ∀ k : Int, pairL p qs (plusL p w (bladeL d i) k d) (plusL p w (bladeL d i) k d) d = (quadS d qs w w - (-k) * quadS d qs w (bladeL d i) - (-k) * quadS d qs (bladeL d i) w + (-k) * (-k) * quadS d qs (bladeL d i) (bladeL d i)) % p := fun k => by
    rw [pair_quad, ← quad_expand]
    unfold quadS
    exact sumN_emod fun t ht => by
      have e : nth (plusL p w (bladeL d i) k d) t % p = (nth w t - -k * nth (bladeL d i) t) % p := by
        rw [plusL_nth ht, plusN, Int.emod_emod]; congr 1; grind
      exact mul3_emod e e
  rw [ex] at h1 hz
  rw [pair_quad] at hw
  have hbb : quadS d qs (bladeL d i) (bladeL d i) = nth qs i := by rw [quad_blade hi, bladeL_nth hi hi, if_pos rfl, Int.one_mul]
  rw [hbb] at h1 hz
  obtain ⟨a, ha⟩ := Int.dvd_of_emod_eq_zero h1
  obtain ⟨b, hb⟩ := Int.dvd_of_emod_eq_zero hz
  have hs : 2 * (quadS d qs w w + nth qs i) = p * (a + b) := by grind
  have h4 : 4 * nth qs i % p = 0 := by
    have e := Int.emod_add_mul_ediv (quadS d qs w w) p
    rw [hw] at e
    have : 4 * nth qs i = p * (a + b - 2 * (quadS d qs w w / p)) := by grind
    rw [this]; exact Int.mul_emod_right ..
  have h5 := (mul_zero_of hp (x := 4 % p) (y := nth qs i % p) (Int.emod_nonneg _ (by omega)) (Int.emod_lt_of_pos _ (by omega)) (Int.emod_nonneg _ (by omega)) (Int.emod_lt_of_pos _ (by omega))).1 (by rw [← Int.mul_emod]; exact h4)
  rcases h5 with h5 | h5
  · have h6 := Int.le_of_dvd (by omega) (Int.dvd_of_emod_eq_zero h5)
    have h7 : p = 3 ∨ p = 4 := by omega
    rcases h7 with rfl | rfl
    · omega
    · revert hp; decide
  · exact hq h5
end Go.Proofs.Ytcocbainookkcaa
