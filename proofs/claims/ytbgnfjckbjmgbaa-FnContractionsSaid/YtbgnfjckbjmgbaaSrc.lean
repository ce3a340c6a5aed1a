/-
  Sources of drawn numbers: what is known of them in memory, and what a draw leaves of the world.
  No condition.
-/
import Derived.Test.YtbgnfjckbjmgbaaPush
import Derived.Test.YtbgnfjckbjmgbaaStabE
import Derived.Laws.Bits64b
namespace Go.Proofs.Ytbgnfjckbjmgbaa
set_option maxRecDepth 100000
open Go.RowKit

/-- A source: its block, and the slice of its code. -/
structure SrcP where
  g : Nat
  ca : Option Addr
  n : Nat
  cap : Nat

/-- n bytes that can be read, apart from a block. -/
def RdB (w : World) (g : Nat) (ca : Option Addr) (n : Nat) : Prop :=
  ∀ i, i < n → ∃ b off, ∃ z : Int, ca = some ⟨b, off, none⟩ ∧ b ≠ g ∧ w.cell? ⟨b, off + i, none⟩ = some (.int .u8 z) ∧ 0 ≤ z ∧ z ≤ 255

structure Src (S : SrcP) (w : World) : Prop where
  len : S.n ≤ 4096
  c0 : w.cell? ⟨S.g, 0, none⟩ = some (.slice S.ca S.n S.cap)
  c1 : ∃ t : Nat, t ≤ S.n ∧ w.cell? ⟨S.g, 1, none⟩ = some (.int .i64 t)
  c2 : ∃ h : Int, w.cell? ⟨S.g, 2, none⟩ = some (.int .u64 h)
  fz : ∀ j, w.frozen? ⟨S.g, j, none⟩ = false
  rd : RdB w S.g S.ca S.n

theorem Src.lt {S : SrcP} {w : World} (h : Src S w) : S.g < w.heap.size := lt_of_cell h.c0

/-- All blocks but the source's are as they were, and the source is one still. -/
structure Drw (S : SrcP) (w w' : World) : Prop where
  os : w'.os = w.os
  tape : w'.tape = w.tape
  output : w'.output = w.output
  size : w.heap.size ≤ w'.heap.size
  block : ∀ k, k < w.heap.size → k ≠ S.g → w'.heap[k]? = w.heap[k]?
  src : Src S w → Src S w'

theorem Drw.refl (S : SrcP) (w : World) : Drw S w w := ⟨rfl, rfl, rfl, Nat.le_refl _, fun _ _ _ => rfl, id⟩
theorem Drw.trans {S : SrcP} {a b c : World} (h : Drw S a b) (k : Drw S b c) : Drw S a c :=
  ⟨k.os.trans h.os, k.tape.trans h.tape, k.output.trans h.output, Nat.le_trans h.size k.size, fun i hi hg => (k.block i (Nat.lt_of_lt_of_le hi h.size) hg).trans (h.block i hi hg), fun hs => k.src (h.src hs)⟩

theorem RdB.block {w w' : World} {g n : Nat} {ca : Option Addr} (h : RdB w g ca n) (hb : ∀ k, k < w.heap.size → k ≠ g → w'.heap[k]? = w.heap[k]?) : RdB w' g ca n := fun i hi => by
  obtain ⟨b, off, z, h1, h2, h3, h4⟩ := h i hi
  exact ⟨b, off, z, h1, h2, by rw [World.cell?_of_block (w := w) (hb b (lt_of_cell h3) h2)]; exact h3, h4⟩

/-- What lies below the first world's size is left alone afterwards. -/
theorem Drw.below {S : SrcP} {W w w' : World} (h : Drw S W w) (k : Below W.heap.size w w') : Drw S W w' := by
  refine ⟨k.os.trans h.os, k.tape.trans h.tape, k.output.trans h.output, Nat.le_trans h.size k.size, fun i hi hg => (k.block i hi).trans (h.block i hi hg), fun hs => ?_⟩
  have hw := h.src hs
  have hg := k.block S.g hs.lt
  refine ⟨hw.len, ?_, ?_, ?_, fun j => ?_, fun i hi => ?_⟩
  · rw [World.cell?_of_block (w := w) hg]; exact hw.c0
  · obtain ⟨t, ht, hc⟩ := hw.c1
    exact ⟨t, ht, by rw [World.cell?_of_block (w := w) hg]; exact hc⟩
  · obtain ⟨t, hc⟩ := hw.c2
    exact ⟨t, by rw [World.cell?_of_block (w := w) hg]; exact hc⟩
  · rw [World.frozen?_of_block (w := w) hg]; exact hw.fz j
  · obtain ⟨b, off, z, h1, h2, h3, h4⟩ := hs.rd i hi
    have hb := lt_of_cell h3
    exact ⟨b, off, z, h1, h2, by rw [World.cell?_of_block (w := w) (k.block b hb), World.cell?_of_block (w := W) (h.block b hb h2)]; exact h3, h4⟩

theorem Drw.of_ext {S : SrcP} {w w' : World} (h : Ext w w') : Drw S w w' := (Drw.refl S w).below h
theorem Drw.ext {S : SrcP} {W w w' : World} (h : Drw S W w) (k : Ext w w') : Drw S W w' := h.below (Below.mono k h.size)
theorem Drw.alloc {S : SrcP} {W w : World} (h : Drw S W w) (o : Obj) : Drw S W (w.alloc o) := h.ext (ext_alloc _ _)
theorem Drw.drew {S : SrcP} {W w : World} (h : Drw S W w) : Drw S W w.drew := h.ext (ext_drew _)
theorem Drw.setCell {S : SrcP} {W w : World} (h : Drw S W w) {p : Addr} (hp : W.heap.size ≤ p.block) (u : Value) : Drw S W (w.setCell p u) := h.below ((Below.refl _ _).setCell hp u)
theorem Drw.grown {S : SrcP} {W w w' : World} {row : Option Nat} (h : Drw S W w) (hg : w.grownBy w' row) (hr : ∀ k, row = some k → W.heap.size ≤ k) : Drw S W w' := h.below ((Below.refl _ _).grown hg h.size hr)
theorem Drw.cell {S : SrcP} {w w' : World} (h : Drw S w w') {p : Addr} {v : Value} (hp : p.block ≠ S.g) (hc : w.cell? p = some v) : w'.cell? p = some v := by
  rw [World.cell?_of_block (w := w) (h.block p.block (lt_of_cell hc) hp)]; exact hc
theorem Drw.frz {S : SrcP} {w w' : World} (h : Drw S w w') {p : Addr} (hl : p.block < w.heap.size) (hp : p.block ≠ S.g) : w'.frozen? p = w.frozen? p :=
  World.frozen?_of_block (w := w) (h.block p.block hl hp)
theorem Drw.own {S : SrcP} {B : Nat} {w w' : World} {a : Option Addr} {n cap : Nat} {xs : List Int} (h : Drw S w w') (ho : OwnC B w a n cap xs) (hB : S.g < B) : OwnC B w' a n cap xs :=
  ho.keep fun g hg => by
    have := ho.base_of g hg
    exact h.block g this.2 (by omega)
/-- A draw behind the making of the source. -/
theorem Drw.toExt {S : SrcP} {W w w' : World} (h : Drw S w w') (he : Ext W w) (hg : W.heap.size ≤ S.g) : Ext W w' :=
  he.trans' ⟨h.os, h.tape, h.output, h.size, fun k hk => h.block k (Nat.lt_of_lt_of_le hk he.size) (by omega)⟩

/-- As a relation for walks. -/
def Drw.rel (S : SrcP) : Chg.Rel := ⟨Drw S, Drw.refl S, Drw.trans⟩

def NextR (n r : Int) : Prop := (n < 1 → r = 0) ∧ (1 ≤ n → 0 ≤ r ∧ r < n)

theorem src_set {S : SrcP} {w : World} (h : Src S w) {j : Nat} {v : Value} (h0 : j = 1 → ∃ t : Nat, t ≤ S.n ∧ v = .int .i64 t) (h1 : j = 2 → ∃ x, v = .int .u64 x) (hj : j = 1 ∨ j = 2) : Drw S w (w.setCell ⟨S.g, j, none⟩ v) := by
  have hb : ∀ k, k < w.heap.size → k ≠ S.g → (w.setCell ⟨S.g, j, none⟩ v).heap[k]? = w.heap[k]? := fun k _ hk => Below.heap_setCell _ _ _ _ hk
  refine ⟨rfl, rfl, rfl, by simp [World.setCell], hb, fun hs => ?_⟩
  obtain ⟨t, ht, c1⟩ := h.c1
  obtain ⟨x, c2⟩ := h.c2
  have c0 := h.c0
  rcases hj with rfl | rfl
  · obtain ⟨t', ht', rfl⟩ := h0 rfl
    exact ⟨h.len, by go_simp, ⟨t', ht', by go_simp⟩, ⟨x, by go_simp⟩, fun i => by have := h.fz i; go_simp, h.rd.block hb⟩
  · obtain ⟨x', rfl⟩ := h1 rfl
    exact ⟨h.len, by go_simp, ⟨t, ht, by go_simp⟩, ⟨x', by go_simp⟩, fun i => by have := h.fz i; go_simp, h.rd.block hb⟩

theorem src_h {S : SrcP} {w : World} (h : Src S w) (x : Int) : Drw S w (w.setCell ⟨S.g, 2, none⟩ (.int .u64 x)) := src_set h (fun h => by omega) (fun _ => ⟨x, rfl⟩) (.inr rfl)
theorem u64_bd (E : Int) : 0 ≤ IntKind.u64.wrap E ∧ IntKind.u64.wrap E ≤ 18446744073709551615 := by
  simp [IntKind.wrap, IntKind.bits, IntKind.signed]; omega
theorem draw_bd (E : Int) : ∃ x : Int, wrap64 (bits BinOp.and IntKind.u64 (IntKind.u64.wrap E / 8589934592) 16777215) = x ∧ 0 ≤ x ∧ x ≤ 16777215 := by
  refine ⟨_, rfl, ?_⟩
  have h := u64_bd E
  obtain ⟨A, hA⟩ : ∃ A : Nat, IntKind.u64.wrap E / 8589934592 = (A : Int) := ⟨(IntKind.u64.wrap E / 8589934592).toNat, by omega⟩
  rw [hA, show (16777215 : Int) = ((16777215 : Nat) : Int) from rfl, bits_and_u64_nat _ _ (by omega) (by omega)]
  have h2 : A &&& 16777215 ≤ 16777215 := Nat.and_le_right
  have h3 : wrap64 ((A &&& 16777215 : Nat) : Int) = ((A &&& 16777215 : Nat) : Int) := by unfold wrap64; omega
  rw [h3]
  omega
theorem next_of {n x : Int} (h : ¬ n < 1) (_h0 : 0 ≤ x) : NextR n (x % n) := ⟨fun h' => absurd h' h, fun _ => ⟨Int.emod_nonneg _ (by omega), Int.emod_lt_of_pos _ (by omega)⟩⟩

set_option maxHeartbeats 1000000 in
theorem s_next (S : SrcP) (n : Int) (w : World) (hS : Src S w) (hn : n ≤ 9223372036854775807) :
    Calls Try.prog 101 #[.pointer (some ⟨S.g, 0, none⟩), .int .i64 n] w fun e w' => ∃ r, e = .returned (.int .i64 r) ∧ NextR n r ∧ Drw S w w' := by
  by_cases h1 : n < 1
  · go_enter Try.func101, Try.ntmps101
    go_wp2_with (fail)
    go_ret
    exact ⟨0, rfl, ⟨fun _ => rfl, fun h => by omega⟩, Drw.refl _ _⟩
  · obtain ⟨t, ht, c1⟩ := hS.c1
    obtain ⟨h, c2⟩ := hS.c2
    have c0 := hS.c0
    have f2 := hS.fz 2
    obtain ⟨x, hx, hx0, hx1⟩ := draw_bd (IntKind.u64.wrap (h * 6364136223846793005) + 1442695040888963407)
    obtain ⟨V, hV⟩ : ∃ V, V = Value.int IntKind.u64 (IntKind.u64.wrap (IntKind.u64.wrap (h * 6364136223846793005) + 1442695040888963407)) := ⟨_, rfl⟩
    obtain ⟨W, hW⟩ : ∃ W, W = w.setCell ⟨S.g, 2, none⟩ V := ⟨_, rfl⟩
    have D1 : Drw S w W := by rw [hW]; exact src_set hS (fun h => by omega) (fun _ => ⟨_, hV⟩) (.inr rfl)
    have e0 : W.cell? ⟨S.g, 0, none⟩ = some (.slice S.ca S.n S.cap) := by rw [hW]; go_simp
    have e1 : W.cell? ⟨S.g, 1, none⟩ = some (.int .i64 t) := by rw [hW]; go_simp
    have hS1 := D1.src hS
    have HS := Lib.hid hS1
    have HD := Lib.hid D1
    have HX := Lib.hid hx
    have HW := Lib.hid (by rw [hW, hV] : W = w.setCell ⟨S.g, 2, none⟩ (Value.int IntKind.u64 (IntKind.u64.wrap (IntKind.u64.wrap (h * 6364136223846793005) + 1442695040888963407))))
    have f1 := hS1.fz 1
    have hl := hS1.len
    clear hS hx D1 hS1 hW hV
    by_cases h2 : t < S.n
    · obtain ⟨b, off, z, hca, hbg, hcb, hz0, hz1⟩ := HS.out.rd t h2
      have E0 := Lib.hid ((ext_drew W).cell e0)
      have E1 := Lib.hid ((ext_drew W).cell e1)
      have EB := Lib.hid ((ext_drew W).cell hcb)
      have hnn : (n == 0) = false := by simp; omega
      rw [hca] at E0
      have HR := Lib.hid (next_of (n := n) (x := x + z) h1 (by omega))
      go_enter Try.func101, Try.ntmps101
      go_wp2_with (fail)
      rw [HX.out, ← HW.out]
      clear c0 c1 c2 f2 e0 hcb
      refine wp_region_lex [] (by kernel_rfl) (by kernel_rfl) ?_
      repeat' first | (refine LexW.pure (v := ?_) rfl rfl (fun w1 he => ?_) ?_; rotate_left; ( have x0 := he.cell E0.out; have x1 := he.cell E1.out; go_simp; rfl); simp only [Act.put, List.setIfInBounds_toArray, List.set_cons_zero, List.set_cons_succ])
      refine LexW.nil (fun w2 he hk => ?_)
      have X2 := Lib.hid ((ext_drew W).trans he)
      have F1 := Lib.hid ((ext_drew w2).cell (he.cell E0.out))
      have F2 := Lib.hid ((ext_drew w2).cell (he.cell E1.out))
      have F3 := Lib.hid ((ext_drew w2).cell (he.cell EB.out))
      clear he hk
      go_wp2_with (fail)
      refine wp_region_lex [] (by kernel_rfl) (by kernel_rfl) ?_
      repeat' first | (refine LexW.pure (v := ?_) rfl rfl (fun w1 he => ?_) ?_; rotate_left; ( have x0 := he.cell F1.out; have x1 := he.cell F2.out; have x2 := he.cell F3.out; go_simp; rfl); simp only [Act.put, List.setIfInBounds_toArray, List.set_cons_zero, List.set_cons_succ])
      refine LexW.nil (fun w3 he hk => ?_)
      have X3 := Lib.hid (X2.out.trans ((ext_drew w2).trans he))
      have y1 := he.cell F2.out
      have fz1 : w3.frozen? ⟨S.g, 1, none⟩ = false := by rw [X3.out.frz _ _ HS.out.lt]; exact f1
      clear he hk
      go_wp2_with (fail)
      go_ret
      refine ⟨_, rfl, ?_, ?_⟩
      · skip
        exact HR.out
      · have hS3 := (Drw.of_ext X3.out).src HS.out
        exact (HD.out.ext X3.out).trans (src_set hS3 (fun _ => ⟨t + 1, by omega, by go_num⟩) (fun h => by omega) (.inl rfl))
    · have E0 := Lib.hid ((ext_drew W).cell e0)
      have E1 := Lib.hid ((ext_drew W).cell e1)
      have hnn : (n == 0) = false := by simp; omega
      have HR := Lib.hid (next_of (n := n) (x := x) h1 (by omega))
      go_enter Try.func101, Try.ntmps101
      go_wp2_with (fail)
      rw [HX.out, ← HW.out]
      clear c0 c1 c2 f2 e0
      refine wp_region_lex [] (by kernel_rfl) (by kernel_rfl) ?_
      repeat' first | (refine LexW.pure (v := ?_) rfl rfl (fun w1 he => ?_) ?_; rotate_left; ( have x0 := he.cell E0.out; have x1 := he.cell E1.out; go_simp; rfl); simp only [Act.put, List.setIfInBounds_toArray, List.set_cons_zero, List.set_cons_succ])
      refine LexW.nil (fun w2 he hk => ?_)
      have X2 := Lib.hid ((ext_drew W).trans he)
      clear he hk
      go_wp2_with (fail)
      go_ret
      exact ⟨_, rfl, HR.out, HD.out.ext X2.out⟩
set_option maxHeartbeats 1000000 in
theorem l_below (S : SrcP) (n : Int) (w : World) (hS : Src S w) (hn : n ≤ 9223372036854775807) :
    Calls Try.prog 31 #[.pointer (some ⟨S.g, 0, none⟩), .int .i64 n] w fun e w' => ∃ r, e = .returned (.int .i64 r) ∧ NextR n r ∧ Drw S w w' := by
  by_cases h1 : n < 1
  · go_enter Try.func31, Try.ntmps31
    go_wp2_with (fail)
    go_ret
    exact ⟨0, rfl, ⟨fun _ => rfl, fun h => by omega⟩, Drw.refl _ _⟩
  · obtain ⟨t, ht, c1⟩ := hS.c1
    obtain ⟨h, c2⟩ := hS.c2
    have c0 := hS.c0
    have f2 := hS.fz 2
    obtain ⟨x, hx, hx0, hx1⟩ := draw_bd (IntKind.u64.wrap (h * 6364136223846793005) + 1442695040888963407)
    obtain ⟨V, hV⟩ : ∃ V, V = Value.int IntKind.u64 (IntKind.u64.wrap (IntKind.u64.wrap (h * 6364136223846793005) + 1442695040888963407)) := ⟨_, rfl⟩
    obtain ⟨W, hW⟩ : ∃ W, W = w.setCell ⟨S.g, 2, none⟩ V := ⟨_, rfl⟩
    have D1 : Drw S w W := by rw [hW]; exact src_set hS (fun h => by omega) (fun _ => ⟨_, hV⟩) (.inr rfl)
    have e0 : W.cell? ⟨S.g, 0, none⟩ = some (.slice S.ca S.n S.cap) := by rw [hW]; go_simp
    have e1 : W.cell? ⟨S.g, 1, none⟩ = some (.int .i64 t) := by rw [hW]; go_simp
    have hS1 := D1.src hS
    have HS := Lib.hid hS1
    have HD := Lib.hid D1
    have HX := Lib.hid hx
    have HW := Lib.hid (by rw [hW, hV] : W = w.setCell ⟨S.g, 2, none⟩ (Value.int IntKind.u64 (IntKind.u64.wrap (IntKind.u64.wrap (h * 6364136223846793005) + 1442695040888963407))))
    have f1 := hS1.fz 1
    have hl := hS1.len
    clear hS hx D1 hS1 hW hV
    by_cases h2 : t < S.n
    · obtain ⟨b, off, z, hca, hbg, hcb, hz0, hz1⟩ := HS.out.rd t h2
      have E0 := Lib.hid ((ext_drew W).cell e0)
      have E1 := Lib.hid ((ext_drew W).cell e1)
      have EB := Lib.hid ((ext_drew W).cell hcb)
      have hnn : (n == 0) = false := by simp; omega
      rw [hca] at E0
      have HR := Lib.hid (next_of (n := n) (x := x + z) h1 (by omega))
      go_enter Try.func31, Try.ntmps31
      go_wp2_with (fail)
      rw [HX.out, ← HW.out]
      clear c0 c1 c2 f2 e0 hcb
      refine wp_region_lex [] (by kernel_rfl) (by kernel_rfl) ?_
      repeat' first | (refine LexW.pure (v := ?_) rfl rfl (fun w1 he => ?_) ?_; rotate_left; ( have x0 := he.cell E0.out; have x1 := he.cell E1.out; go_simp; rfl); simp only [Act.put, List.setIfInBounds_toArray, List.set_cons_zero, List.set_cons_succ])
      refine LexW.nil (fun w2 he hk => ?_)
      have X2 := Lib.hid ((ext_drew W).trans he)
      have F1 := Lib.hid ((ext_drew w2).cell (he.cell E0.out))
      have F2 := Lib.hid ((ext_drew w2).cell (he.cell E1.out))
      have F3 := Lib.hid ((ext_drew w2).cell (he.cell EB.out))
      clear he hk
      go_wp2_with (fail)
      refine wp_region_lex [] (by kernel_rfl) (by kernel_rfl) ?_
      repeat' first | (refine LexW.pure (v := ?_) rfl rfl (fun w1 he => ?_) ?_; rotate_left; ( have x0 := he.cell F1.out; have x1 := he.cell F2.out; have x2 := he.cell F3.out; go_simp; rfl); simp only [Act.put, List.setIfInBounds_toArray, List.set_cons_zero, List.set_cons_succ])
      refine LexW.nil (fun w3 he hk => ?_)
      have X3 := Lib.hid (X2.out.trans ((ext_drew w2).trans he))
      have y1 := he.cell F2.out
      have fz1 : w3.frozen? ⟨S.g, 1, none⟩ = false := by rw [X3.out.frz _ _ HS.out.lt]; exact f1
      clear he hk
      go_wp2_with (fail)
      go_ret
      refine ⟨_, rfl, ?_, ?_⟩
      · skip
        exact HR.out
      · have hS3 := (Drw.of_ext X3.out).src HS.out
        exact (HD.out.ext X3.out).trans (src_set hS3 (fun _ => ⟨t + 1, by omega, by go_num⟩) (fun h => by omega) (.inl rfl))
    · have E0 := Lib.hid ((ext_drew W).cell e0)
      have E1 := Lib.hid ((ext_drew W).cell e1)
      have hnn : (n == 0) = false := by simp; omega
      have HR := Lib.hid (next_of (n := n) (x := x) h1 (by omega))
      go_enter Try.func31, Try.ntmps31
      go_wp2_with (fail)
      rw [HX.out, ← HW.out]
      clear c0 c1 c2 f2 e0
      refine wp_region_lex [] (by kernel_rfl) (by kernel_rfl) ?_
      repeat' first | (refine LexW.pure (v := ?_) rfl rfl (fun w1 he => ?_) ?_; rotate_left; ( have x0 := he.cell E0.out; have x1 := he.cell E1.out; go_simp; rfl); simp only [Act.put, List.setIfInBounds_toArray, List.set_cons_zero, List.set_cons_succ])
      refine LexW.nil (fun w2 he hk => ?_)
      have X2 := Lib.hid ((ext_drew W).trans he)
      clear he hk
      go_wp2_with (fail)
      go_ret
      exact ⟨_, rfl, HR.out, HD.out.ext X2.out⟩


/-- n bytes that can be read. -/
def RdY (w : World) (ca : Option Addr) (n : Nat) : Prop :=
  ∀ i, i < n → ∃ b off, ∃ z : Int, ca = some ⟨b, off, none⟩ ∧ w.cell? ⟨b, off + i, none⟩ = some (.int .u8 z) ∧ 0 ≤ z ∧ z ≤ 255
theorem RdY.ext {w w' : World} {ca : Option Addr} {n : Nat} (h : RdY w ca n) (he : Ext w w') : RdY w' ca n := fun i hi => by
  obtain ⟨b, off, z, h1, h2, h3⟩ := h i hi
  exact ⟨b, off, z, h1, he.cell h2, h3⟩

set_option maxHeartbeats 1000000 in
theorem s_from (ca : Option Addr) (n cap : Nat) (w : World) (hn : n ≤ 4096) (hb : RdY w ca n) :
    Calls Try.prog 70 #[.slice ca n cap] w fun e w' => ∃ g, e = .returned (.pointer (some ⟨g, 0, none⟩)) ∧ w.heap.size ≤ g ∧ Src ⟨g, ca, n, cap⟩ w' ∧ Ext w w' := by
  obtain ⟨g, hg⟩ : ∃ g, g = w.heap.size := ⟨_, rfl⟩
  have HG := Lib.hid hg
  have HB := Lib.hid hb
  clear hb
  go_enter Try.func70, Try.ntmps70
  go_wp2_with (fail)
  rw [← hg]
  go_loopw [4] (fun i wr => ∃ (k : Nat), k ≤ n ∧ i = .int .i64 k ∧ Src ⟨g, ca, n, cap⟩ wr ∧ Ext w wr) (fun i _ => n - (intOf i).toNat)
  case atStart =>
    refine ⟨0, Nat.zero_le _, rfl, ?_, ext_alloc _ _⟩
    refine ⟨hn, by rw [HG.out]; simp, ⟨0, Nat.zero_le _, by rw [HG.out]; simp⟩, ⟨_, by rw [HG.out]; simp; rfl⟩, fun j => by rw [HG.out]; simp, fun i hi => ?_⟩
    obtain ⟨b, off, z, h1, h2, h3⟩ := HB.out i hi
    exact ⟨b, off, z, h1, by have := lt_of_cell h2; have := HG.out; dsimp only at *; omega, (ext_alloc _ _).cell h2, h3⟩
  case round =>
    obtain ⟨k, hk, rfl, hS, hext⟩ := hrel
    have HS := Lib.hid hS
    have HE := Lib.hid hext
    clear hext hg
    by_cases hlt : k < n
    · obtain ⟨h, c2⟩ := hS.c2
      obtain ⟨b, off, z, rfl, hbg, hc, hz0, hz1⟩ := hS.rd k hlt
      have C2 := Lib.hid ((ext_drew _).cell c2)
      have CB := Lib.hid ((ext_drew _).cell hc)
      have hk6 : k < 4096 := by omega
      clear hS c2 hc
      go_wp2_with (fail)
      refine wp_region_lex_tail 15 [] (by kernel_rfl) (by kernel_rfl) ?_
      simp only [List.take, List.drop]
      repeat' first | (refine LexW.pure (v := ?_) rfl rfl (fun w1 he => ?_) ?_; rotate_left; ( have x0 := he.cell C2.out; have x1 := he.cell CB.out; go_simp; rfl); simp only [Act.put, List.setIfInBounds_toArray, List.set_cons_zero, List.set_cons_succ])
      refine LexW.nil (fun w2 he hkn => ?_)
      have X2 := Lib.hid ((ext_drew _).trans he)
      have hS2 := (Drw.of_ext X2.out).src HS.out
      have fz := hS2.fz 2
      have c2 := he.cell C2.out
      have HS2 := Lib.hid hS2
      clear he hkn hS2
      go_wp2_with (fail)
      go_roundw
      case rel =>
        exact ⟨k + 1, by omega, by go_num, (src_h HS2.out _).src HS2.out, (src_h HS2.out _).toExt (HE.out.trans X2.out) (by have := HG.out; dsimp only; omega)⟩
      case measure => simp [intOf]; omega
    · go_wp2_with (fail)
      go_ret
      exact ⟨g, rfl, by have := HG.out; omega, HS.out, HE.out⟩
set_option maxHeartbeats 1000000 in
theorem l_roll (ca : Option Addr) (n cap : Nat) (sd : Int) (w : World) (hn : n ≤ 4096) (hb : RdY w ca n) :
    Calls Try.prog 27 #[.slice ca n cap, .int .u64 sd] w fun e w' => ∃ g, e = .returned (.pointer (some ⟨g, 0, none⟩)) ∧ w.heap.size ≤ g ∧ Src ⟨g, ca, n, cap⟩ w' ∧ Ext w w' := by
  obtain ⟨g, hg⟩ : ∃ g, g = w.heap.size := ⟨_, rfl⟩
  have HG := Lib.hid hg
  have HB := Lib.hid hb
  clear hb
  go_enter Try.func27, Try.ntmps27
  go_wp2_with (fail)
  rw [← hg]
  go_loopw [6] (fun i wr => ∃ (k : Nat), k ≤ n ∧ i = .int .i64 k ∧ Src ⟨g, ca, n, cap⟩ wr ∧ Ext w wr) (fun i _ => n - (intOf i).toNat)
  case atStart =>
    refine ⟨0, Nat.zero_le _, rfl, ?_, ext_alloc _ _⟩
    refine ⟨hn, by rw [HG.out]; simp, ⟨0, Nat.zero_le _, by rw [HG.out]; simp⟩, ⟨_, by rw [HG.out]; simp; rfl⟩, fun j => by rw [HG.out]; simp, fun i hi => ?_⟩
    obtain ⟨b, off, z, h1, h2, h3⟩ := HB.out i hi
    exact ⟨b, off, z, h1, by have := lt_of_cell h2; have := HG.out; dsimp only at *; omega, (ext_alloc _ _).cell h2, h3⟩
  case round =>
    obtain ⟨k, hk, rfl, hS, hext⟩ := hrel
    have HS := Lib.hid hS
    have HE := Lib.hid hext
    clear hext hg
    by_cases hlt : k < n
    · obtain ⟨h, c2⟩ := hS.c2
      obtain ⟨b, off, z, rfl, hbg, hc, hz0, hz1⟩ := hS.rd k hlt
      have C2 := Lib.hid ((ext_drew _).cell c2)
      have CB := Lib.hid ((ext_drew _).cell hc)
      have hk6 : k < 4096 := by omega
      clear hS c2 hc
      go_wp2_with (fail)
      refine wp_region_lex_tail 15 [] (by kernel_rfl) (by kernel_rfl) ?_
      simp only [List.take, List.drop]
      repeat' first | (refine LexW.pure (v := ?_) rfl rfl (fun w1 he => ?_) ?_; rotate_left; ( have x0 := he.cell C2.out; have x1 := he.cell CB.out; go_simp; rfl); simp only [Act.put, List.setIfInBounds_toArray, List.set_cons_zero, List.set_cons_succ])
      refine LexW.nil (fun w2 he hkn => ?_)
      have X2 := Lib.hid ((ext_drew _).trans he)
      have hS2 := (Drw.of_ext X2.out).src HS.out
      have fz := hS2.fz 2
      have c2 := he.cell C2.out
      have HS2 := Lib.hid hS2
      clear he hkn hS2
      go_wp2_with (fail)
      go_roundw
      case rel =>
        exact ⟨k + 1, by omega, by go_num, (src_h HS2.out _).src HS2.out, (src_h HS2.out _).toExt (HE.out.trans X2.out) (by have := HG.out; dsimp only; omega)⟩
      case measure => simp [intOf]; omega
    · go_wp2_with (fail)
      go_ret
      exact ⟨g, rfl, by have := HG.out; omega, HS.out, HE.out⟩
end Go.Proofs.Ytbgnfjckbjmgbaa
