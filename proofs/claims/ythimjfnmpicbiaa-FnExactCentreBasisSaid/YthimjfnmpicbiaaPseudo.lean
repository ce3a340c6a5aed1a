/-
  The pseudoscalar, its square; 0 and 1 in the reference.
  No condition.
-/
import Derived.Test.YthimjfnmpicbiaaTimes
namespace Go.Proofs.Ythimjfnmpicbiaa
set_option maxRecDepth 100000
open Go.RowKit

/-- A row of numbers of the call's own, that begins a block. -/
def SPred.ownG (B n : Nat) (xs : List Int) : SPred := ⟨fun v w => ∃ g, v = .slice (some ⟨g, 0, none⟩) n n ∧ OwnC B w (some ⟨g, 0, none⟩) n n xs, fun _ _ _ ⟨g, hv, h⟩ he => ⟨g, hv, h.ext he⟩⟩
/-- A row of numbers of the call's own, that begins a block, with room behind it. -/
def SPred.ownS (B n : Nat) (xs : List Int) : SPred := ⟨fun v w => ∃ g cap, v = .slice (some ⟨g, 0, none⟩) n cap ∧ OwnC B w (some ⟨g, 0, none⟩) n cap xs, fun _ _ _ ⟨g, cap, hv, h⟩ he => ⟨g, cap, hv, h.ext he⟩⟩
/-- A row of rows. -/
def SPred.rows (n : Nat) (rows : List (List Int)) : SPred := ⟨fun v w => ∃ g, v = .slice (some ⟨g, 0, none⟩) n n ∧ RdR w (some ⟨g, 0, none⟩) n rows, fun _ _ _ ⟨g, hv, h⟩ he => ⟨g, hv, h.ext he⟩⟩
/-- A cell with a number. -/
def SPred.cell (x : Int) : SPred := ⟨fun v w => ∃ b off, v = .pointer (some ⟨b, off, none⟩) ∧ w.cell? ⟨b, off, none⟩ = some (.int .i64 x), fun _ _ _ ⟨b, off, hv, h⟩ he => ⟨b, off, hv, he.cell h⟩⟩

/-- Any other operation whose value is known. -/
theorem LexW.relV {P : Program} {ops : Array Oper} {w0 : World} {sp : Nat → Option SPred} {Q : Act → World → Prop} {o : Oper} {l : List Oper} {k : Nat} {a : Act} {env : List (Nat × Value)} {v : Value} (hsp : sp k = some (SPred.val v)) (hw : Region.wanted o (yielded ops a.tmps) = true)
    (hr : ∀ w, Ext w0 w → Dep sp (depsOf ops k) a w → ∃ w', (execOp a.eval o).run P w = .ok (.value v) w' ∧ Ext w w')
    (h : LexW P ops w0 sp Q l (k + 1) (a.put o.dst v) ((k, v) :: env)) : LexW P ops w0 sp Q (o :: l) k a env :=
  LexW.rel hsp hw (fun w he hd => let ⟨w', h1, h2⟩ := hr w he hd; ⟨v, w', h1, h2, rfl⟩) fun v' ⟨_, hv⟩ => by
    have hv' : v' = v := hv
    subst hv'
    exact h

def fullL (d : Nat) : List Int := bladeL (2 ^ d) (2 ^ d - 1)
def topL (d : Nat) (k : Int) : List Int := (List.replicate (2 ^ d) 0).set (2 ^ d - 1) k
theorem topL_one (d : Nat) : topL d 1 = fullL d := rfl
theorem pow_pos' (d : Nat) : 1 ≤ 2 ^ d := Nat.pos_of_ne_zero (by simp)
theorem full_good {p : Int} {d : Nat} (hp : 3 ≤ p) : Good p (2 ^ d) (fullL d) := blade_good hp
theorem top_good {p : Int} {d : Nat} {k : Int} (hp : 3 ≤ p) (h0 : 0 ≤ k) (h1 : k < p) : Good p (2 ^ d) (topL d k) := good_set (good_zero (by omega)) h0 h1

theorem pow_wrapI {d : Nat} (h : d ≤ 6) : IntKind.i64.wrap (2 ^ d) = ((2 ^ d : Nat) : Int) := by
  have : d = 0 ∨ d = 1 ∨ d = 2 ∨ d = 3 ∨ d = 4 ∨ d = 5 ∨ d = 6 := by omega
  rcases this with rfl | rfl | rfl | rfl | rfl | rfl | rfl <;> decide +kernel


set_option maxHeartbeats 400000 in
theorem s_zero (p : Int) (a : Option Addr) (d cap : Nat) (w : World) (hd : d ≤ 6) :
    Calls Try.prog 102 #[.agg #[.int .i64 p, .slice a d cap]] w fun e w' => ∃ g, e = .returned (.slice (some ⟨g, 0, none⟩) (2 ^ d) (2 ^ d)) ∧ OwnC w.heap.size w' (some ⟨g, 0, none⟩) (2 ^ d) (2 ^ d) (List.replicate (2 ^ d) 0) ∧ Ext w w' := by
  have hN := pow_le64 hd
  obtain ⟨N, hN'⟩ : ∃ N, N = 2 ^ d := ⟨_, rfl⟩
  have HN := Lib.hid hN'
  rw [← hN'] at hN ⊢
  clear hN'
  go_enter Try.func102, Try.ntmps102
  go_wp2_with (go_at_call 174; refine (s_size _ _ _ _ _ hd).mono ?_; rintro e w1 ⟨rfl, g1⟩; rw [← HN.out])
  obtain ⟨w2, hmk, ho, he⟩ := make_ints w1 N (by omega)
  have HO := Lib.hid ho
  have HE := Lib.hid ((ext_alloc _ _).trans (g1.trans he))
  have hz := g1.size'
  simp only [World.size_alloc] at hz
  clear ho he g1
  rw [hmk]
  go_wp2_with (fail)
  go_ret
  exact ⟨w1.heap.size, rfl, HO.out.mono (by omega), HE.out⟩

set_option maxHeartbeats 400000 in
theorem s_one (p : Int) (a : Option Addr) (d cap : Nat) (w : World) (hd : d ≤ 6) :
    Calls Try.prog 79 #[.agg #[.int .i64 p, .slice a d cap]] w fun e w' => ∃ g, e = .returned (.slice (some ⟨g, 0, none⟩) (2 ^ d) (2 ^ d)) ∧ OwnC w.heap.size w' (some ⟨g, 0, none⟩) (2 ^ d) (2 ^ d) (bladeL (2 ^ d) 0) ∧ Ext w w' := by
  have hN1 := pow_pos' d
  obtain ⟨N, hN'⟩ : ∃ N, N = 2 ^ d := ⟨_, rfl⟩
  have HN := Lib.hid hN'
  rw [← hN'] at hN1 ⊢
  clear hN'
  go_enter Try.func79, Try.ntmps79
  go_wp2_with (fail)
  have Hno := s_zero p a d cap (w.alloc (.cells #[.int .i64 p, .slice a d cap] 30)) hd
  rw [← HN.out] at Hno
  refine Hno.mono ?_
  rintro e w1 ⟨g, rfl, ho, g1⟩
  have HO := Lib.hid ho
  have G1 := Lib.hid g1
  have ec := ho.cell hN1
  have ef := ho.frozen 0
  have hg := ho.base_le
  simp only [World.size_alloc] at hg
  clear Hno ho g1
  go_wp2_with (fail)
  go_ret
  exact ⟨g, rfl, (HO.out.store hN1 _).mono (by simp), ((ext_alloc _ _).trans G1.out).setCell (by simp; omega) _⟩


theorem nth_bd {p : Int} {N : Nat} {xs : List Int} (h : Good p N xs) {i : Nat} (hi : i < N) : 0 ≤ nth xs i ∧ nth xs i < p := h.2 i hi
def sqFull (p : Int) (qs : List Int) : Int := nth (prodL p qs tkA (fullL qs.length) (fullL qs.length)) 0
theorem sqFull_bd {p : Int} {qs : List Int} (hp : 3 ≤ p) : 0 ≤ sqFull p qs ∧ sqFull p qs < p := (prod_good (by omega)).2 0 (pow_pos' _)
theorem own_cell0 {B : Nat} {w : World} {g n cap : Nat} {xs : List Int} (h : OwnC B w (some ⟨g, 0, none⟩) n cap xs) (hn : 0 < n) : w.cell? ⟨g, 0, none⟩ = some (.int .i64 (nth xs 0)) := h.cell hn

theorem good_pair {p : Int} {N : Nat} {xs ys : List Int} (h : Good p N xs) (h' : Good p N ys) : ∀ i, i < 2 → Good p N (nthR [xs, ys] i) := fun i hi => by
  have : i = 0 ∨ i = 1 := by omega
  rcases this with rfl | rfl
  · exact h
  · exact h'


end Go.Proofs.Ythimjfnmpicbiaa
