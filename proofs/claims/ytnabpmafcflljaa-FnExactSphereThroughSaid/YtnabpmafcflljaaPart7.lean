/-
  Contracts and plain laws, part 7: ExtS, Point, Code18, WedgeP, Sph, Read, ReadR.
  No condition.
-/
import Derived.Test.YtnabpmafcflljaaPart6
import Derived.Test.YtnabpmafcflljaaPart0
import Derived.Test.YtnabpmafcflljaaPart3
import Derived.Test.YtnabpmafcflljaaPart2
import Derived.Test.YtnabpmafcflljaaPart5
import Derived.Test.YtnabpmafcflljaaPart4
import Derived.ProofKit
import Derived.OpenShut
import Derived.ShutString
import Derived.ChangeOld
import Derived.Below
import Derived.Lib.SmallJoins
import Derived.Deep.Matrix
/-
  The extension of a space, infinity: contracts.
  No condition.
-/
namespace Go.Proofs.Ytnabpmafcflljaa
set_option maxRecDepth 100000
open Go.RowKit

/-- The squares of the extension. -/
def extL (p : Int) (qs : List Int) : List Int := qs ++ [1, p - 1]
theorem extL_len (p : Int) (qs : List Int) : (extL p qs).length = qs.length + 2 := by simp [extL]
theorem extL_isB {p : Int} {qs : List Int} (hp : 3 ≤ p) (h : isB p qs = true) : isB p (extL p qs) = true := by
  unfold isB at h ⊢
  unfold extL
  rw [List.all_append, h]
  simp [inB]; omega
/-- Infinity. -/
def infL (d : Nat) : List Int := List.replicate d 0 ++ [1, 1]

theorem wpListI_appendAll {ops : Array Oper} {rest : List Oper} {o : Oper} {a : Act} {Q : Exit → Act → World → Prop} {I : World → Prop} {w : World} (hI : I w) (hwd : Region.wanted o (yielded ops a.tmps) = true) (s x : Operand)
    (ho : o.op = .call { callee := .builtin .append, args := #[s, x], argTypes := #[22, 22] })
    {B : Nat} {ra : Option Addr} {n cap : Nat} {xs : List Int} {b off m c : Nat} {ys : List Int} (hs : a.eval s = .slice ra n cap) (hx : a.eval x = .slice (some ⟨b, off, none⟩) m c)
    (hown : OwnC B w ra n cap xs) (hy : RdC w (some ⟨b, off, none⟩) m ys) (hm : 0 < m) (hn : n ≤ 4194304) (hml : m ≤ 4194304) (hB : B ≤ w.heap.size)
    (h : ∀ g' cap' w', OwnC B w' (some ⟨g', 0, none⟩) (n + m) cap' (xs ++ ys) → (∀ W : World, W.heap.size ≤ B → Ext W w → Ext W w') →
      wpListI Try.prog ops Q I rest (a.put o.dst (.slice (some ⟨g', 0, none⟩) (n + m) cap')) w') : wpListI Try.prog ops Q I (o :: rest) a w := by
  obtain ⟨g', cap', w', hr, h1, h2, h3⟩ := run_appendAll hown hy hm hn hml hB o.type (c := c)
  refine wpListI.value (v := .slice (some ⟨g', 0, none⟩) (n + m) cap') hI hwd ?_ (h g' cap' w' h1 h3)
  unfold execOp
  simp only [ho, resolve, invoke, builtin, Sem.run_bind, Sem.run_pure, Result.andThen_ok, List.map_toArray, List.map_cons, List.map_nil, hs, hx, hr]

/-- A row of two numbers. -/
def SPred.two (x y : Int) : SPred := ⟨fun v w => ∃ g, v = .slice (some ⟨g, 0, none⟩) 2 2 ∧ w.cell? ⟨g, 0, none⟩ = some (.int .i64 x) ∧ w.cell? ⟨g, 1, none⟩ = some (.int .i64 y), fun _ _ _ ⟨g, hv, h, h'⟩ he => ⟨g, hv, he.cell h, he.cell h'⟩⟩
theorem rdC_two {w : World} {g : Nat} {x y : Int} (h : w.cell? ⟨g, 0, none⟩ = some (.int .i64 x)) (h' : w.cell? ⟨g, 1, none⟩ = some (.int .i64 y)) : RdC w (some ⟨g, 0, none⟩) 2 [x, y] := by
  refine ⟨rfl, fun i hi => ?_⟩
  have : i = 0 ∨ i = 1 := by omega
  rcases this with rfl | rfl
  · exact ⟨g, 0, rfl, h⟩
  · exact ⟨g, 0, rfl, h'⟩
set_option maxHeartbeats 4000000 in
set_option maxRecDepth 100000 in
theorem c_extended (p : Int) (a : Option Addr) (d cap : Nat) (qs : List Int) (w : World) (hd1 : 0 < d) (hd : d ≤ 4194303) (hp1 : 3 ≤ p) (hp2 : p ≤ 1000) (hq : RdC w a d qs) :
    Calls Try.prog 39 #[.agg #[.int .i64 p, .slice a d cap]] w fun e w' => ∃ g rc, e = .returned (.agg #[.int .i64 p, .slice (some ⟨g, 0, none⟩) (d + 2) rc]) ∧ OwnC w.heap.size w' (some ⟨g, 0, none⟩) (d + 2) rc (extL p qs) ∧ Ext w w' := by
  obtain ⟨b, off, rfl, _⟩ := hq.2 0 hd1
  have hw1 : IntKind.i64.wrap (p - 1) = p - 1 := IntWalk.i64_in _ (by omega)
  have HQ := Lib.hid hq
  clear hq
  obtain ⟨W1, hW1⟩ : ∃ W, W = w.alloc (.cells #[.int .i64 p, .slice (some ⟨b, off, none⟩) d cap] 30) := ⟨_, rfl⟩
  obtain ⟨W, hW⟩ : ∃ W, W = W1.alloc (.cells #[.int .i64 0, .slice none 0 0] 30) := ⟨_, rfl⟩
  have gW1 : Ext w W1 := by rw [hW1]; exact ext_alloc _ _
  have gW : Ext W1 W := by rw [hW]; exact ext_alloc _ _
  have hz : W1.heap.size = w.heap.size + 1 := by rw [hW1]; simp
  have hs0 : W1.cell? ⟨w.heap.size, 0, none⟩ = some (.int .i64 p) := by rw [hW1]; simp
  have hs1 : W1.cell? ⟨w.heap.size, 1, none⟩ = some (.slice (some ⟨b, off, none⟩) d cap) := by rw [hW1]; simp
  have hr0 : W.cell? ⟨w.heap.size + 1, 0, none⟩ = some (.int .i64 0) := by rw [hW, ← hz]; simp
  have hr1 : W.cell? ⟨w.heap.size + 1, 1, none⟩ = some (.slice none 0 0) := by rw [hW, ← hz]; simp
  have hf0 : ∀ j, W.frozen? ⟨w.heap.size + 1, j, none⟩ = false := fun j => by rw [hW, ← hz]; simp
  have hlt : w.heap.size + 1 < W.heap.size := by rw [hW, ← hz]; simp
  have HS0 := Lib.hid ((gW.trans (ext_drew _)).cell hs0)
  have HS1 := Lib.hid ((gW.trans (ext_drew _)).cell hs1)
  have HI1 := Lib.hid hs0
  have HR0 := Lib.hid ((ext_drew _).cell hr0)
  have HR1 := Lib.hid ((ext_drew _).cell hr1)
  have HF0 := Lib.hid (show ∀ j, W.drew.frozen? ⟨w.heap.size + 1, j, none⟩ = false from fun j => by rw [(ext_drew W).frz _ _ hlt]; exact hf0 j)
  have GW1 := Lib.hid gW1
  have G1 := Lib.hid (gW.trans (ext_drew W))
  have GW := Lib.hid (gW1.trans (gW.trans (ext_drew W)))
  have HZ := Lib.hid hz
  have HW := Lib.hid hW
  have HW1 := Lib.hid hW1
  have HLt := Lib.hid (show w.heap.size + 1 < W.drew.heap.size from Nat.lt_of_lt_of_le hlt (ext_drew W).size)
  clear hs0 hs1 hr0 hr1 hf0 gW gW1 hz hW hW1 hlt
  go_enter Try.func39, Try.ntmps39
  go_wp2_with (fail)
  rw [← HW1.out, ← HW.out]
  refine wp_region_lex_tail2 9 [(4, .ownS W.drew.heap.size d qs), (8, .two 1 (p - 1))] (.pointer (some ⟨w.heap.size, 0, none⟩)) (.int .i64 p) (fun w' => w'.cell? ⟨w.heap.size, 0, none⟩ = some (.int .i64 p)) (by kernel_rfl) (by kernel_rfl) rfl rfl (fun w' he => he.cell HS0.out) ⟨rfl, fun w' _ => by go_simp⟩ ⟨rfl, fun w' hI => by go_simp⟩ ?_
  simp only [List.take, List.drop]
  simp only [Act.put, List.setIfInBounds_toArray, List.set_cons_zero, List.set_cons_succ]
  (refine LexW.pure (v := ?_) rfl rfl (fun w1 he => ?_) ?_; rotate_left; ( have e1 := he.cell HS0.out; have e2 := he.cell HS1.out; go_simp; rfl); simp only [Act.put, List.setIfInBounds_toArray, List.set_cons_zero, List.set_cons_succ])
  (refine LexW.pure (v := ?_) rfl rfl (fun w1 he => ?_) ?_; rotate_left; ( have e1 := he.cell HS0.out; have e2 := he.cell HS1.out; go_simp; rfl); simp only [Act.put, List.setIfInBounds_toArray, List.set_cons_zero, List.set_cons_succ])
  (refine LexW.callR (f := ?_) (args := ?_) rfl rfl (fun w1 => ?_) (fun w1 he hdep => ?_) (fun v hv => ?_); rotate_left 2; (go_simp; refine ⟨?_, ?_⟩ <;> rfl); ( refine (c_clone b off d cap qs w1 hd1 (by omega) (HQ.out.ext (GW.out.trans he))).mono ?_; rintro e w2 ⟨g2, rc2, rfl, ho, x2⟩; exact ⟨_, rfl, x2, g2, rc2, rfl, ho.mono he.size⟩); simp only [Act.put, List.setIfInBounds_toArray, List.set_cons_zero, List.set_cons_succ])
  obtain ⟨_, g7, c7, rfl, _⟩ := hv
  (refine LexW.pure (v := ?_) rfl rfl (fun w1 he => ?_) ?_; rotate_left; ( have e1 := he.cell HS0.out; have e2 := he.cell HS1.out; go_simp; rfl); simp only [Act.put, List.setIfInBounds_toArray, List.set_cons_zero, List.set_cons_succ])
  (refine LexW.pure (v := ?_) rfl rfl (fun w1 he => ?_) ?_; rotate_left; ( have e1 := he.cell HS0.out; have e2 := he.cell HS1.out; go_simp; rfl); simp only [Act.put, List.setIfInBounds_toArray, List.set_cons_zero, List.set_cons_succ])
  (refine LexW.pure (v := ?_) rfl rfl (fun w1 he => ?_) ?_; rotate_left; ( have e1 := he.cell HS0.out; have e2 := he.cell HS1.out; go_simp; rfl); simp only [Act.put, List.setIfInBounds_toArray, List.set_cons_zero, List.set_cons_succ])
  (refine LexW.rel rfl rfl (fun w1 he hdep => ?_) (fun v hv => ?_); ( exact ⟨.slice (some ⟨w1.heap.size, 0, none⟩) 2 2, w1.alloc (.cells #[.int .i64 1, .int .i64 (p - 1)] 2), (by go_simp), ext_alloc _ _, _, rfl, (by simp), (by simp)⟩); simp only [Act.put, List.setIfInBounds_toArray, List.set_cons_zero, List.set_cons_succ])
  obtain ⟨_, g11, rfl, _⟩ := hv
  refine LexW.nil (fun w3 he hkn => ?_)
  obtain ⟨_, _, q7, r7⟩ : (SPred.ownS W.drew.heap.size d qs).holds (.slice (some ⟨g7, 0, none⟩) d c7) w3 := hkn (4, _) (by simp)
  cases q7
  obtain ⟨_, q11, r11, r11'⟩ : (SPred.two 1 (p - 1)).holds (.slice (some ⟨g11, 0, none⟩) 2 2) w3 := hkn (8, _) (by simp)
  cases q11
  have R7 := Lib.hid r7
  have R11 := Lib.hid (rdC_two r11 r11')
  have X3 := Lib.hid he
  clear he hkn r7 r11 r11'
  refine wpListI_appendAll (X3.out.cell HS0.out) rfl (.tmp 7) (.tmp 11) rfl rfl rfl R7.out R11.out (by omega) (by omega) (by omega) X3.out.size ?_
  intro g4 c4 w4 ho4 he4
  have HO4 := Lib.hid ho4
  have X4 := Lib.hid (he4 W.drew (Nat.le_refl _) X3.out)
  clear ho4 he4
  simp only [Act.put, List.setIfInBounds_toArray, List.set_cons_zero, List.set_cons_succ]
  refine wpListI.value (v := ?_) (w' := w4) (X4.out.cell HS0.out) rfl ?_ ?_
  rotate_left
  · go_simp; rfl
  simp only [Act.put, List.setIfInBounds_toArray, List.set_cons_zero, List.set_cons_succ]
  have hc0 := X4.out.cell HR0.out
  have hc1 := X4.out.cell HR1.out
  have hz0 : w4.frozen? ⟨w.heap.size + 1, 0, none⟩ = false := by rw [X4.out.frz _ _ HLt.out]; exact HF0.out 0
  have hz1 : w4.frozen? ⟨w.heap.size + 1, 1, none⟩ = false := by rw [X4.out.frz _ _ HLt.out]; exact HF0.out 1
  refine wpListI.skip (w' := (w4.setCell ⟨w.heap.size + 1, 0, none⟩ (.int .i64 p)).setCell ⟨w.heap.size + 1, 1, none⟩ (.slice (some ⟨g4, 0, none⟩) (d + 2) c4)) (X4.out.cell HS0.out) rfl ?_ ?_
  · go_simp
  have XE := Lib.hid ((((G1.out.trans X4.out).setCell (p := ⟨w.heap.size + 1, 0, none⟩) (by show W1.heap.size ≤ w.heap.size + 1; rw [HZ.out]; exact Nat.le_refl _) (.int .i64 p))).setCell (p := ⟨w.heap.size + 1, 1, none⟩) (by show W1.heap.size ≤ w.heap.size + 1; rw [HZ.out]; exact Nat.le_refl _) (.slice (some ⟨g4, 0, none⟩) (d + 2) c4))
  refine ⟨XE.out.cell HI1.out, strictQ_normal ?_⟩
  simp only [Act.put]
  go_wp2_with (fail)
  refine bodyPost_ret (v := .agg #[.int .i64 p, .slice (some ⟨g4, 0, none⟩) (d + 2) c4]) (by simp [results, Try.results39, go_sem, hc0, hc1]) rfl ⟨g4, c4, rfl, ?_, GW1.out.trans XE.out⟩
  exact ((HO4.out.other HLt.out _).other HLt.out _).mono GW.out.size

set_option maxHeartbeats 4000000 in
set_option maxRecDepth 100000 in
theorem s_extended (p : Int) (a : Option Addr) (d cap : Nat) (qs : List Int) (w : World) (hd1 : 0 < d) (hd : d ≤ 4194303) (hp1 : 3 ≤ p) (hp2 : p ≤ 1000) (hq : RdC w a d qs) :
    Calls Try.prog 32 #[.agg #[.int .i64 p, .slice a d cap]] w fun e w' => ∃ g rc, e = .returned (.agg #[.int .i64 p, .slice (some ⟨g, 0, none⟩) (d + 2) rc]) ∧ OwnC w.heap.size w' (some ⟨g, 0, none⟩) (d + 2) rc (extL p qs) ∧ Ext w w' := by
  obtain ⟨b, off, rfl, _⟩ := hq.2 0 hd1
  have hw1 : IntKind.i64.wrap (p - 1) = p - 1 := IntWalk.i64_in _ (by omega)
  have HQ := Lib.hid hq
  clear hq
  obtain ⟨W1, hW1⟩ : ∃ W, W = w.alloc (.cells #[.int .i64 p, .slice (some ⟨b, off, none⟩) d cap] 30) := ⟨_, rfl⟩
  obtain ⟨W, hW⟩ : ∃ W, W = W1.alloc (.cells #[.int .i64 0, .slice none 0 0] 30) := ⟨_, rfl⟩
  have gW1 : Ext w W1 := by rw [hW1]; exact ext_alloc _ _
  have gW : Ext W1 W := by rw [hW]; exact ext_alloc _ _
  have hz : W1.heap.size = w.heap.size + 1 := by rw [hW1]; simp
  have hs0 : W1.cell? ⟨w.heap.size, 0, none⟩ = some (.int .i64 p) := by rw [hW1]; simp
  have hs1 : W1.cell? ⟨w.heap.size, 1, none⟩ = some (.slice (some ⟨b, off, none⟩) d cap) := by rw [hW1]; simp
  have hr0 : W.cell? ⟨w.heap.size + 1, 0, none⟩ = some (.int .i64 0) := by rw [hW, ← hz]; simp
  have hr1 : W.cell? ⟨w.heap.size + 1, 1, none⟩ = some (.slice none 0 0) := by rw [hW, ← hz]; simp
  have hf0 : ∀ j, W.frozen? ⟨w.heap.size + 1, j, none⟩ = false := fun j => by rw [hW, ← hz]; simp
  have hlt : w.heap.size + 1 < W.heap.size := by rw [hW, ← hz]; simp
  have HS0 := Lib.hid ((gW.trans (ext_drew _)).cell hs0)
  have HS1 := Lib.hid ((gW.trans (ext_drew _)).cell hs1)
  have HI1 := Lib.hid hs0
  have HR0 := Lib.hid ((ext_drew _).cell hr0)
  have HR1 := Lib.hid ((ext_drew _).cell hr1)
  have HF0 := Lib.hid (show ∀ j, W.drew.frozen? ⟨w.heap.size + 1, j, none⟩ = false from fun j => by rw [(ext_drew W).frz _ _ hlt]; exact hf0 j)
  have GW1 := Lib.hid gW1
  have G1 := Lib.hid (gW.trans (ext_drew W))
  have GW := Lib.hid (gW1.trans (gW.trans (ext_drew W)))
  have HZ := Lib.hid hz
  have HW := Lib.hid hW
  have HW1 := Lib.hid hW1
  have HLt := Lib.hid (show w.heap.size + 1 < W.drew.heap.size from Nat.lt_of_lt_of_le hlt (ext_drew W).size)
  clear hs0 hs1 hr0 hr1 hf0 gW gW1 hz hW hW1 hlt
  go_enter Try.func32, Try.ntmps32
  go_wp2_with (fail)
  rw [← HW1.out, ← HW.out]
  refine wp_region_lex_tail2 9 [(4, .ownS W.drew.heap.size d qs), (8, .two 1 (p - 1))] (.pointer (some ⟨w.heap.size, 0, none⟩)) (.int .i64 p) (fun w' => w'.cell? ⟨w.heap.size, 0, none⟩ = some (.int .i64 p)) (by kernel_rfl) (by kernel_rfl) rfl rfl (fun w' he => he.cell HS0.out) ⟨rfl, fun w' _ => by go_simp⟩ ⟨rfl, fun w' hI => by go_simp⟩ ?_
  simp only [List.take, List.drop]
  simp only [Act.put, List.setIfInBounds_toArray, List.set_cons_zero, List.set_cons_succ]
  (refine LexW.pure (v := ?_) rfl rfl (fun w1 he => ?_) ?_; rotate_left; ( have e1 := he.cell HS0.out; have e2 := he.cell HS1.out; go_simp; rfl); simp only [Act.put, List.setIfInBounds_toArray, List.set_cons_zero, List.set_cons_succ])
  (refine LexW.pure (v := ?_) rfl rfl (fun w1 he => ?_) ?_; rotate_left; ( have e1 := he.cell HS0.out; have e2 := he.cell HS1.out; go_simp; rfl); simp only [Act.put, List.setIfInBounds_toArray, List.set_cons_zero, List.set_cons_succ])
  (refine LexW.callR (f := ?_) (args := ?_) rfl rfl (fun w1 => ?_) (fun w1 he hdep => ?_) (fun v hv => ?_); rotate_left 2; (go_simp; refine ⟨?_, ?_⟩ <;> rfl); ( refine (s_own b off d cap qs w1 hd1 (by omega) (HQ.out.ext (GW.out.trans he))).mono ?_; rintro e w2 ⟨g2, rc2, rfl, ho, x2⟩; exact ⟨_, rfl, x2, g2, rc2, rfl, ho.mono he.size⟩); simp only [Act.put, List.setIfInBounds_toArray, List.set_cons_zero, List.set_cons_succ])
  obtain ⟨_, g7, c7, rfl, _⟩ := hv
  (refine LexW.pure (v := ?_) rfl rfl (fun w1 he => ?_) ?_; rotate_left; ( have e1 := he.cell HS0.out; have e2 := he.cell HS1.out; go_simp; rfl); simp only [Act.put, List.setIfInBounds_toArray, List.set_cons_zero, List.set_cons_succ])
  (refine LexW.pure (v := ?_) rfl rfl (fun w1 he => ?_) ?_; rotate_left; ( have e1 := he.cell HS0.out; have e2 := he.cell HS1.out; go_simp; rfl); simp only [Act.put, List.setIfInBounds_toArray, List.set_cons_zero, List.set_cons_succ])
  (refine LexW.pure (v := ?_) rfl rfl (fun w1 he => ?_) ?_; rotate_left; ( have e1 := he.cell HS0.out; have e2 := he.cell HS1.out; go_simp; rfl); simp only [Act.put, List.setIfInBounds_toArray, List.set_cons_zero, List.set_cons_succ])
  (refine LexW.rel rfl rfl (fun w1 he hdep => ?_) (fun v hv => ?_); ( exact ⟨.slice (some ⟨w1.heap.size, 0, none⟩) 2 2, w1.alloc (.cells #[.int .i64 1, .int .i64 (p - 1)] 2), (by go_simp), ext_alloc _ _, _, rfl, (by simp), (by simp)⟩); simp only [Act.put, List.setIfInBounds_toArray, List.set_cons_zero, List.set_cons_succ])
  obtain ⟨_, g11, rfl, _⟩ := hv
  refine LexW.nil (fun w3 he hkn => ?_)
  obtain ⟨_, _, q7, r7⟩ : (SPred.ownS W.drew.heap.size d qs).holds (.slice (some ⟨g7, 0, none⟩) d c7) w3 := hkn (4, _) (by simp)
  cases q7
  obtain ⟨_, q11, r11, r11'⟩ : (SPred.two 1 (p - 1)).holds (.slice (some ⟨g11, 0, none⟩) 2 2) w3 := hkn (8, _) (by simp)
  cases q11
  have R7 := Lib.hid r7
  have R11 := Lib.hid (rdC_two r11 r11')
  have X3 := Lib.hid he
  clear he hkn r7 r11 r11'
  refine wpListI_appendAll (X3.out.cell HS0.out) rfl (.tmp 7) (.tmp 11) rfl rfl rfl R7.out R11.out (by omega) (by omega) (by omega) X3.out.size ?_
  intro g4 c4 w4 ho4 he4
  have HO4 := Lib.hid ho4
  have X4 := Lib.hid (he4 W.drew (Nat.le_refl _) X3.out)
  clear ho4 he4
  simp only [Act.put, List.setIfInBounds_toArray, List.set_cons_zero, List.set_cons_succ]
  refine wpListI.value (v := ?_) (w' := w4) (X4.out.cell HS0.out) rfl ?_ ?_
  rotate_left
  · go_simp; rfl
  simp only [Act.put, List.setIfInBounds_toArray, List.set_cons_zero, List.set_cons_succ]
  have hc0 := X4.out.cell HR0.out
  have hc1 := X4.out.cell HR1.out
  have hz0 : w4.frozen? ⟨w.heap.size + 1, 0, none⟩ = false := by rw [X4.out.frz _ _ HLt.out]; exact HF0.out 0
  have hz1 : w4.frozen? ⟨w.heap.size + 1, 1, none⟩ = false := by rw [X4.out.frz _ _ HLt.out]; exact HF0.out 1
  refine wpListI.skip (w' := (w4.setCell ⟨w.heap.size + 1, 0, none⟩ (.int .i64 p)).setCell ⟨w.heap.size + 1, 1, none⟩ (.slice (some ⟨g4, 0, none⟩) (d + 2) c4)) (X4.out.cell HS0.out) rfl ?_ ?_
  · go_simp
  have XE := Lib.hid ((((G1.out.trans X4.out).setCell (p := ⟨w.heap.size + 1, 0, none⟩) (by show W1.heap.size ≤ w.heap.size + 1; rw [HZ.out]; exact Nat.le_refl _) (.int .i64 p))).setCell (p := ⟨w.heap.size + 1, 1, none⟩) (by show W1.heap.size ≤ w.heap.size + 1; rw [HZ.out]; exact Nat.le_refl _) (.slice (some ⟨g4, 0, none⟩) (d + 2) c4))
  refine ⟨XE.out.cell HI1.out, strictQ_normal ?_⟩
  simp only [Act.put]
  go_wp2_with (fail)
  refine bodyPost_ret (v := .agg #[.int .i64 p, .slice (some ⟨g4, 0, none⟩) (d + 2) c4]) (by simp [results, Try.results32, go_sem, hc0, hc1]) rfl ⟨g4, c4, rfl, ?_, GW1.out.trans XE.out⟩
  exact ((HO4.out.other HLt.out _).other HLt.out _).mono GW.out.size

set_option maxHeartbeats 1000000 in
theorem c_infinity (p : Int) (a : Option Addr) (d cap : Nat) (w : World) (hd : d ≤ 4194303) :
    Calls Try.prog 75 #[.agg #[.int .i64 p, .slice a d cap]] w fun e w' => ∃ g rc, e = .returned (.slice (some ⟨g, 0, none⟩) (d + 2) rc) ∧ OwnC w.heap.size w' (some ⟨g, 0, none⟩) (d + 2) rc (infL d) ∧ Ext w w' := by
  go_enter Try.func75, Try.ntmps75
  go_wp2_with (go_at_call 49; refine (c_dim _ _ _ _ _).mono ?_; rintro e w1 ⟨rfl, g1⟩)
  obtain ⟨w2, hmk, ho, he⟩ := make_ints w1 d (by omega)
  have HO := Lib.hid ho
  have HE := Lib.hid ((ext_alloc _ _).trans (g1.trans he))
  have hz := g1.size'
  simp only [World.size_alloc] at hz
  clear ho he g1
  rw [hmk]
  go_wp2_with (at_builtin; refine wpList_appendAll rfl (.tmp 5) (.tmp 6) rfl rfl rfl (HO.out.ext (ext_alloc _ _)) (rdC_two (x := 1) (y := 1) (by simp) (by simp)) (by omega) (by omega) (by omega) ?hB ?hk)
  case hB => have := (HO.out.base_of _ rfl).2; simp; omega
  case hk =>
    intro g4 c4 w4 ho4 hg4 he4
    have HO4 := Lib.hid ho4
    have X4 := Lib.hid (he4 w (by omega) (HE.out.alloc _))
    clear ho4 hg4 he4
    go_wp2_with (fail)
    go_ret
    exact ⟨g4, c4, rfl, HO4.out.mono (by omega), X4.out⟩
set_option maxHeartbeats 1000000 in
theorem s_infinity (p : Int) (a : Option Addr) (d cap : Nat) (w : World) (hd : d ≤ 4194303) :
    Calls Try.prog 67 #[.agg #[.int .i64 p, .slice a d cap]] w fun e w' => ∃ g rc, e = .returned (.slice (some ⟨g, 0, none⟩) (d + 2) rc) ∧ OwnC w.heap.size w' (some ⟨g, 0, none⟩) (d + 2) rc (infL d) ∧ Ext w w' := by
  obtain ⟨W, hW⟩ : ∃ W, W = w.alloc (.cells #[.int .i64 p, .slice a d cap] 30) := ⟨_, rfl⟩
  obtain ⟨w2, hmk, ho, he⟩ := make_ints W d (by omega)
  have gW : Ext w W := by rw [hW]; exact ext_alloc _ _
  have HO := Lib.hid ho
  have HE := Lib.hid (gW.trans he)
  have hz := gW.size'
  have hs1 : W.cell? ⟨w.heap.size, 1, none⟩ = some (.slice a d cap) := by rw [hW]; simp
  have HW := Lib.hid hW
  clear ho he gW hW
  go_enter Try.func67, Try.ntmps67
  go_wp2_with (fail)
  rw [← HW.out, hmk]
  go_wp2_with (at_builtin; refine wpList_appendAll rfl (.tmp 6) (.tmp 7) rfl rfl rfl (HO.out.ext (ext_alloc _ _)) (rdC_two (x := 1) (y := 1) (by simp) (by simp)) (by omega) (by omega) (by omega) ?hB ?hk)
  case hB => have := (HO.out.base_of _ rfl).2; simp; omega
  case hk =>
    intro g4 c4 w4 ho4 hg4 he4
    have HO4 := Lib.hid ho4
    have X4 := Lib.hid (he4 w (by omega) (HE.out.alloc _))
    clear ho4 hg4 he4
    go_wp2_with (fail)
    go_ret
    exact ⟨g4, c4, rfl, HO4.out.mono (by omega), X4.out⟩
end Go.Proofs.Ytnabpmafcflljaa

/-
  Point vectors: contracts of the program and the reference.
  No condition.
-/
namespace Go.Proofs.Ytnabpmafcflljaa
set_option maxRecDepth 100000
open Go.RowKit

theorem good_app2 {p : Int} {n : Nat} {x : List Int} {u t : Int} (hx : Good p n x) (hu : 0 ≤ u ∧ u < p) (ht : 0 ≤ t ∧ t < p) : Good p (n + 2) (x ++ [u, t]) := by
  have e : x ++ [u, t] = (x ++ [u]) ++ [t] := by simp
  have h1 : ∀ {m : Nat} {y : List Int} {s : Int}, Good p m y → 0 ≤ s ∧ s < p → Good p (m + 1) (y ++ [s]) := fun {m y s} hy hs => ⟨by simp [hy.1], fun i hi => by
    by_cases h : i < m
    · rw [nth_append_left (by rw [hy.1]; exact h)]; exact hy.2 i h
    · have : i = y.length := by rw [hy.1]; omega
      rw [this, nth_append_len]; exact hs⟩
  rw [e]
  exact h1 (h1 hx hu) ht
theorem infL_len (d : Nat) : (infL d).length = d + 2 := by simp [infL]
theorem infL_good {p : Int} (hp : 3 ≤ p) (d : Nat) : Good p (d + 2) (infL d) := good_app2 (good_zero (by omega)) (by omega) (by omega)
def pointL (p : Int) (qs v : List Int) : List Int := plusL p (v ++ [((-1) * invN p 2) % p, (1 * invN p 2) % p]) (infL qs.length) ((pairL p qs v v qs.length * invN p 2) % p) (qs.length + 2)
theorem pointL_good {p : Int} {qs v : List Int} {d : Nat} (hp : 1 ≤ p) (hd : qs.length = d) : Good p (d + 2) (pointL p qs v) := by subst hd; exact plus_good hp
theorem app2_nth {x : List Int} {u t : Int} {n i : Nat} (hx : x.length = n) : nth (x ++ [u, t]) i = if i < n then nth x i else if i = n then u else if i = n + 1 then t else 0 := by
  subst hx
  by_cases h : i < x.length
  · rw [if_pos h, nth_append_left h]
  · rw [if_neg h]
    unfold nth
    rw [List.getD_eq_getElem?_getD, List.getElem?_append_right (by omega)]
    by_cases h1 : i = x.length
    · subst h1; simp
    · rw [if_neg h1]
      by_cases h2 : i = x.length + 1
      · subst h2
        rw [if_pos rfl, show x.length + 1 - x.length = 1 by omega]; rfl
      · rw [if_neg h2, List.getElem?_eq_none (by simp; omega)]; rfl
theorem point_eq {p : Int} {qs v : List Int} {d : Nat} (hd : qs.length = d) (hv : v.length = d) :
    plusL p (v ++ [p - invN p 2, invN p 2]) (scaleL p (infL d) (invN p 2 * pairL p qs v v d) (d + 2)) 1 (d + 2) = pointL p qs v := by
  unfold pointL
  rw [hd]
  generalize hN : pairL p qs v v d = N
  generalize hh : invN p 2 = h
  unfold plusL
  refine List.map_congr_left fun i hi => ?_
  have hi' : i < d + 2 := List.mem_range.1 hi
  unfold plusN
  rw [scaleL_nth hi', scaleN, app2_nth hv, app2_nth hv]
  have hinf : nth (infL d) i = if i < d then 0 else if i = d then 1 else if i = d + 1 then 1 else 0 := by
    unfold infL
    rw [app2_nth (List.length_replicate)]
    by_cases h : i < d
    · rw [if_pos h, if_pos h, nth_replicate h]
    · rw [if_neg h, if_neg h]
  rw [hinf]
  by_cases h1 : i < d
  · simp only [if_pos h1, Int.zero_mul, Int.zero_emod, Int.mul_zero]
  · rw [if_neg h1, if_neg h1, if_neg h1]
    by_cases h2 : i = d
    · simp only [if_pos h2, Int.one_mul, Int.mul_one, Int.add_emod_emod, Int.emod_add_emod]
      rw [show p - h + h * N = (-1 * h + N * h) + p by rw [Int.mul_comm N h]; omega, Int.add_emod_right]
    · rw [if_neg h2, if_neg h2, if_neg h2, if_pos (by omega), if_pos (by omega), if_pos (by omega)]
      simp only [Int.one_mul, Int.mul_one, Int.add_emod_emod, Int.emod_add_emod]
      rw [Int.mul_comm N h]
set_option maxHeartbeats 400000 in
theorem c_half (p n h : Int) (w : World) (hp1 : 3 ≤ p) (hp2 : p ≤ 1000) (hn : -1000 ≤ n ∧ n ≤ 1000) (hh : (n * invN p 2) % p = h) :
    Calls Try.prog 73 #[.int .i64 p, .int .i64 n] w fun e w' => e = .returned (.int .i64 h) ∧ Ext w w' := by
  have hb := invN_bd (a := 2) hp1
  obtain ⟨I, hI⟩ : ∃ I, I = invN p 2 := ⟨_, rfl⟩
  have HI := Lib.hid hI.symm
  rw [← hI] at hb hh
  have hkb := kmul_bd hn hb.1 (show I ≤ 1000 by omega)
  have hw1 : IntKind.i64.wrap (n * I) = n * I := IntWalk.i64_in _ (by omega)
  have HH := Lib.hid hh
  clear hh hI
  go_enter Try.func73, Try.ntmps73
  go_wp2_with (first | (go_at_call 118; refine (c_inv p 2 _ hp1 hp2 (by omega) (by omega)).mono ?_; rintro e w1 ⟨rfl, g1⟩; rw [HI.out]) | (go_at_call 86; refine (c_num _ _ _ (by omega) hp2).mono ?_; rintro e w2 ⟨rfl, g2⟩; rw [HH.out]))
  go_ret
  exact ⟨rfl, g1.trans g2⟩

set_option maxHeartbeats 4000000 in
set_option maxRecDepth 100000 in
theorem c_point (p : Int) (a : Option Addr) (d cap : Nat) (qs : List Int) (av : Option Addr) (cv : Nat) (v : List Int) (w : World) (hd1 : 0 < d) (hd : d ≤ 4) (hpr : primeB p = true) (hq : RdC w a d qs) (hqb : isB p qs = true) (hv : RdC w av d v) (hg : Good p d v) :
    Calls Try.prog 38 #[.agg #[.int .i64 p, .slice a d cap], .slice av d cv] w fun e w' => ∃ g rc, e = .returned (.slice (some ⟨g, 0, none⟩) (d + 2) rc) ∧ OwnC w.heap.size w' (some ⟨g, 0, none⟩) (d + 2) rc (pointL p qs v) ∧ Ext w w' := by
  have hpb := prime_bd hpr
  obtain ⟨bv, ov, rfl, _⟩ := hv.2 0 hd1
  have HPR := Lib.hid hpr
  have HQ := Lib.hid hq
  have HQB := Lib.hid hqb
  have HV := Lib.hid hv
  have HG := Lib.hid hg
  have HIG : Hid (Good p (d + 2) (infL d)) := Lib.hid (infL_good (by omega) d)
  obtain ⟨I, hI⟩ : ∃ I, I = invN p 2 := ⟨_, rfl⟩
  obtain ⟨N, hN⟩ : ∃ N, N = pairL p qs v v d := ⟨_, rfl⟩
  have HN := Lib.hid hN
  have hNb : 0 ≤ N ∧ N < p := by rw [hN]; exact pairL_bd (by omega)
  obtain ⟨H1, hH1⟩ : ∃ h, ((-1) * invN p 2) % p = h := ⟨_, rfl⟩
  obtain ⟨H2, hH2⟩ : ∃ h, (1 * invN p 2) % p = h := ⟨_, rfl⟩
  obtain ⟨K, hK⟩ : ∃ h, (N * invN p 2) % p = h := ⟨_, rfl⟩
  have hb1 : 0 ≤ H1 ∧ H1 < p := by rw [← hH1]; exact ⟨Int.emod_nonneg _ (by omega), Int.emod_lt_of_pos _ (by omega)⟩
  have hb2 : 0 ≤ H2 ∧ H2 < p := by rw [← hH2]; exact ⟨Int.emod_nonneg _ (by omega), Int.emod_lt_of_pos _ (by omega)⟩
  have hbK : 0 ≤ K ∧ K < p := by rw [← hK]; exact ⟨Int.emod_nonneg _ (by omega), Int.emod_lt_of_pos _ (by omega)⟩
  have HP := Lib.hid (show pointL p qs v = plusL p (v ++ [H1, H2]) (infL d) K (d + 2) by unfold pointL; rw [hq.1, ← hN, hH1, hH2, hK])
  have HOG := Lib.hid (good_app2 HG.out hb1 hb2)
  have HH1 := Lib.hid hH1
  have HH2 := Lib.hid hH2
  have HK := Lib.hid hK
  clear hq hqb hv hg hpr hI hN hH1 hH2 hK
  obtain ⟨W, hW⟩ : ∃ W, W = w.alloc (.cells #[.int .i64 p, .slice a d cap] 30) := ⟨_, rfl⟩
  have gW : Ext w W := by rw [hW]; exact ext_alloc _ _
  have hs0 : W.cell? ⟨w.heap.size, 0, none⟩ = some (.int .i64 p) := by rw [hW]; simp
  have hs1 : W.cell? ⟨w.heap.size, 1, none⟩ = some (.slice a d cap) := by rw [hW]; simp
  have HS0 := Lib.hid (hs0)
  have HS1 := Lib.hid (hs1)
  have GW := Lib.hid (gW)
  have HW := Lib.hid hW
  clear hs0 hs1 gW hW
  go_enter Try.func38, Try.ntmps38
  go_wp2_with (fail)
  rw [← HW.out]
  have hs0 := HS0.out
  have hs1 := HS1.out
  go_wp2_with (first
    | (go_at_call 45; refine (c_field _ _ _).mono ?_; rintro e w1 ⟨rfl, g1⟩; have G1 := Lib.hid g1; clear g1)
    | (go_at_call 72; refine (c_clone bv ov d cv v _ hd1 (by omega) (HV.out.ext (GW.out.trans G1.out))).mono ?_; rintro e w2 ⟨g2, r2, rfl, ho2, x2⟩; have HO2 := Lib.hid ho2; have G2 := Lib.hid (G1.out.trans x2); clear ho2 x2)
    | (go_at_call 73; refine (c_half p _ _ _ (by omega) (by omega) (by omega) rfl).mono ?_; rintro e w3 ⟨rfl, g3⟩; (first | rw [HH1.out] | rw [HH2.out]); first | (have X4 := Lib.hid (X3.out.trans g3); clear g3) | (have X3 := Lib.hid g3; clear g3))
    | (at_builtin; refine wpList_appendAll rfl (.tmp 10) (.tmp 15) rfl rfl rfl (HO2.out.ext (X4.out.trans (ext_alloc _ _))) (rdC_two (x := H1) (y := H2) (by simp) (by simp)) (by omega) (by omega) (by omega) ?hB ?hk))
  case hB => have h1 := (G2.out.trans X4.out).size'; have h2 := (HO2.out.base_of _ rfl).1; have h3 := G1.out.size'; have h4 := X4.out.size'; have h5 := (HO2.out.base_of _ rfl).2; simp; omega
  case hk =>
    intro g5 c5 w5 ho5 hg5 he5
    have HO5 := Lib.hid ho5
    have G5 := Lib.hid (he5 W G1.out.size' ((G2.out.trans X4.out).trans (ext_alloc _ _)))
    clear ho5 hg5 he5 hs0 hs1
    go_wp2_with (fail)
    have T0 := Lib.hid ((G5.out.trans (ext_drew _)).cell HS0.out)
    have T1 := Lib.hid ((G5.out.trans (ext_drew _)).cell HS1.out)
    have GX := Lib.hid (GW.out.trans (G5.out.trans (ext_drew w5)))
    have O5 := Lib.hid (HO5.out.ext (ext_drew w5))
    refine wp_region_lex [(3, .ownS w.heap.size (d + 2) (infL d)), (7, .val (.int .i64 N)), (8, .val (.int .i64 K)), (9, .ownS w.heap.size (d + 2) (plusL p (v ++ [H1, H2]) (infL d) K (d + 2)))] (by kernel_rfl) (by kernel_rfl) ?_
    (refine LexW.pure (v := ?_) rfl rfl (fun w1 he => ?_) ?_; rotate_left; ( have e1 := he.cell T0.out; have e2 := he.cell T1.out; go_simp; rfl); simp only [Act.put, List.setIfInBounds_toArray, List.set_cons_zero, List.set_cons_succ])
    (refine LexW.pure (v := ?_) rfl rfl (fun w1 he => ?_) ?_; rotate_left; ( have e1 := he.cell T0.out; have e2 := he.cell T1.out; go_simp; rfl); simp only [Act.put, List.setIfInBounds_toArray, List.set_cons_zero, List.set_cons_succ])
    (refine LexW.pure (v := ?_) rfl rfl (fun w1 he => ?_) ?_; rotate_left; ( have e1 := he.cell T0.out; have e2 := he.cell T1.out; go_simp; rfl); simp only [Act.put, List.setIfInBounds_toArray, List.set_cons_zero, List.set_cons_succ])
    (refine LexW.callR (f := ?_) (args := ?_) rfl rfl (fun w1 => ?_) (fun w1 he hdep => ?_) (fun v hv => ?_); rotate_left 2; (go_simp; refine ⟨?_, ?_⟩ <;> rfl); ( refine (c_infinity p a d cap w1 (by omega)).mono ?_; rintro e w2 ⟨g, rc, rfl, ho, g2⟩; exact ⟨_, rfl, g2, g, rc, rfl, ho.mono (Nat.le_trans GX.out.size he.size)⟩); simp only [Act.put, List.setIfInBounds_toArray, List.set_cons_zero, List.set_cons_succ])
    obtain ⟨_, g20, c20, rfl, _⟩ := hv
    (refine LexW.pure (v := ?_) rfl rfl (fun w1 he => ?_) ?_; rotate_left; ( have e1 := he.cell T0.out; have e2 := he.cell T1.out; go_simp; rfl); simp only [Act.put, List.setIfInBounds_toArray, List.set_cons_zero, List.set_cons_succ])
    (refine LexW.pure (v := ?_) rfl rfl (fun w1 he => ?_) ?_; rotate_left; ( have e1 := he.cell T0.out; have e2 := he.cell T1.out; go_simp; rfl); simp only [Act.put, List.setIfInBounds_toArray, List.set_cons_zero, List.set_cons_succ])
    (refine LexW.pure (v := ?_) rfl rfl (fun w1 he => ?_) ?_; rotate_left; ( have e1 := he.cell T0.out; have e2 := he.cell T1.out; go_simp; rfl); simp only [Act.put, List.setIfInBounds_toArray, List.set_cons_zero, List.set_cons_succ])
    (refine LexW.call (f := ?_) (args := ?_) rfl rfl (fun w1 => ?_) (fun w1 he hdep => ?_) ?_; rotate_left 2; (go_simp; refine ⟨?_, ?_⟩ <;> rfl); ( rw [HN.out]; exact c_norm p a d cap qs _ cv v w1 (by omega) (by omega) (by omega) (HQ.out.ext (GX.out.trans he)) HQB.out (HV.out.ext (GX.out.trans he)) HG.out); simp only [Act.put, List.setIfInBounds_toArray, List.set_cons_zero, List.set_cons_succ])
    (refine LexW.call (f := ?_) (args := ?_) rfl rfl (fun w1 => ?_) (fun w1 he hdep => ?_) ?_; rotate_left 2; (go_simp; refine ⟨?_, ?_⟩ <;> rfl); ( exact c_half p N K w1 (by omega) (by omega) (by omega) HK.out); simp only [Act.put, List.setIfInBounds_toArray, List.set_cons_zero, List.set_cons_succ])
    (refine LexW.callR (f := ?_) (args := ?_) rfl rfl (fun w1 => ?_) (fun w1 he hdep => ?_) (fun v hv => ?_); rotate_left 2; (go_simp; refine ⟨?_, ?_⟩ <;> rfl); ( obtain ⟨_, _, q20, r20⟩ : (SPred.ownS w.heap.size (d + 2) (infL d)).holds (.slice (some ⟨g20, 0, none⟩) (d + 2) c20) w1 := hdep (3, 20) (by decide +kernel); cases q20; refine (c_plus p _ _ (d + 2) c5 c20 (v ++ [H1, H2]) (infL d) K w1 (by omega) (by omega) (by omega) (by omega) (O5.out.rd.ext he) r20.rd HOG.out HIG.out).mono ?_; rintro e w2 ⟨g, rc, rfl, ho, g2⟩; exact ⟨_, rfl, g2, g, rc, rfl, ho.mono (Nat.le_trans GX.out.size he.size)⟩); simp only [Act.put, List.setIfInBounds_toArray, List.set_cons_zero, List.set_cons_succ])
    obtain ⟨_, g26, c26, rfl, _⟩ := hv
    (refine LexW.pure (v := ?_) rfl rfl (fun w1 he => ?_) ?_; rotate_left; ( have e1 := he.cell T0.out; have e2 := he.cell T1.out; go_simp; rfl); simp only [Act.put, List.setIfInBounds_toArray, List.set_cons_zero, List.set_cons_succ])
    refine LexW.nil (fun w3 he hkn => ?_)
    obtain ⟨_, _, q26, r26⟩ : (SPred.ownS w.heap.size (d + 2) (plusL p (v ++ [H1, H2]) (infL d) K (d + 2))).holds (.slice (some ⟨g26, 0, none⟩) (d + 2) c26) w3 := hkn (9, _) (by simp)
    cases q26
    have R26 := Lib.hid r26
    have HE := Lib.hid (GX.out.trans he)
    clear he hkn r26
    go_wp2_with (fail)
    go_ret
    exact ⟨_, _, rfl, by rw [HP.out]; exact R26.out, HE.out⟩

set_option maxHeartbeats 4000000 in
set_option maxRecDepth 100000 in
theorem s_point (p : Int) (a : Option Addr) (d cap : Nat) (qs : List Int) (av : Option Addr) (cv : Nat) (v : List Int) (w : World) (hd1 : 0 < d) (hd : d ≤ 4) (hpr : primeB p = true) (hq : RdC w a d qs) (hqb : isB p qs = true) (hv : RdC w av d v) (hg : Good p d v) :
    Calls Try.prog 33 #[.agg #[.int .i64 p, .slice a d cap], .slice av d cv] w fun e w' => ∃ g rc, e = .returned (.slice (some ⟨g, 0, none⟩) (d + 2) rc) ∧ OwnC w.heap.size w' (some ⟨g, 0, none⟩) (d + 2) rc (pointL p qs v) ∧ Ext w w' := by
  have hpb := prime_bd hpr
  obtain ⟨bv, ov, rfl, _⟩ := hv.2 0 hd1
  have HPR := Lib.hid hpr
  have HQ := Lib.hid hq
  have HQB := Lib.hid hqb
  have HV := Lib.hid hv
  have HG := Lib.hid hg
  have HIG : Hid (Good p (d + 2) (infL d)) := Lib.hid (infL_good (by omega) d)
  obtain ⟨I, hI⟩ : ∃ I, I = invN p 2 := ⟨_, rfl⟩
  obtain ⟨N, hN⟩ : ∃ N, N = pairL p qs v v d := ⟨_, rfl⟩
  have HN := Lib.hid hN
  have hNb : 0 ≤ N ∧ N < p := by rw [hN]; exact pairL_bd (by omega)
  have hib : 0 ≤ I ∧ I < p := by rw [hI]; exact invN_bd (by omega)
  obtain ⟨M, hM⟩ : ∃ M, M = I * N := ⟨_, rfl⟩
  have hMb : 0 ≤ M ∧ M ≤ 1000 := by
    rw [hM]
    refine ⟨Int.mul_nonneg hib.1 hNb.1, ?_⟩
    have h1 : I * N ≤ 13 * N := Int.mul_le_mul_of_nonneg_right (by omega) hNb.1
    omega
  have hwM : IntKind.i64.wrap (I * N) = M := by rw [hM]; exact IntWalk.i64_in _ (by omega)
  have hwI0 : IntKind.i64.wrap (p - I) = p - I := IntWalk.i64_in _ (by omega)
  have HP := Lib.hid (show plusL p (v ++ [p - I, I]) (scaleL p (infL d) M (d + 2)) 1 (d + 2) = pointL p qs v by rw [hM, hI, hN]; exact point_eq hq.1 hv.1)
  obtain ⟨J, hJ⟩ : ∃ J, J = p - I := ⟨_, rfl⟩
  rw [← hJ] at HP
  have hwI : IntKind.i64.wrap (p - I) = J := hwI0.trans hJ.symm
  have hJb : 0 ≤ J ∧ J ≤ 1000 := by omega
  have HOB : Hid (∀ i, i < d + 2 → 0 ≤ nth (v ++ [J, I]) i ∧ nth (v ++ [J, I]) i ≤ 1000) := Lib.hid (fun i hi => by
    rw [app2_nth hv.1]
    by_cases h1 : i < d
    · rw [if_pos h1]; have := hg.2 i h1; omega
    · rw [if_neg h1]
      by_cases h2 : i = d
      · rw [if_pos h2]; exact hJb
      · rw [if_neg h2, if_pos (by omega)]; omega)
  have HI := Lib.hid hI.symm
  clear hq hqb hv hg hpr hI hN hM hJ hwI0
  obtain ⟨W, hW⟩ : ∃ W, W = w.alloc (.cells #[.int .i64 p, .slice a d cap] 30) := ⟨_, rfl⟩
  have gW : Ext w W := by rw [hW]; exact ext_alloc _ _
  have hs0 : W.cell? ⟨w.heap.size, 0, none⟩ = some (.int .i64 p) := by rw [hW]; simp
  have hs1 : W.cell? ⟨w.heap.size, 1, none⟩ = some (.slice a d cap) := by rw [hW]; simp
  have HS0 := Lib.hid (hs0)
  have HS1 := Lib.hid (hs1)
  have GW := Lib.hid (gW)
  have HW := Lib.hid hW
  clear hs0 hs1 gW hW
  go_enter Try.func33, Try.ntmps33
  go_wp2_with (fail)
  rw [← HW.out]
  have hs0 := HS0.out
  have hs1 := HS1.out
  go_wp2_with (go_at_call 63; refine (s_inv p 2 _ HPR.out (by omega) (by omega)).mono ?_; rintro e w1 ⟨rfl, g1⟩; rw [HI.out]; have G1 := Lib.hid g1; clear g1)
  have T0 := Lib.hid ((G1.out.trans (ext_drew _)).cell HS0.out)
  have T1 := Lib.hid ((G1.out.trans (ext_drew _)).cell HS1.out)
  have GX := Lib.hid (GW.out.trans (G1.out.trans (ext_drew w1)))
  clear hs0 hs1
  rename World => w0
  refine wp_region_lex_tail 8 [(1, .ownS w0.drew.heap.size d v), (7, .two J I)] (by kernel_rfl) (by kernel_rfl) ?_
  simp only [List.take, List.drop]
  (refine LexW.pure (v := ?_) rfl rfl (fun w1 he => ?_) ?_; rotate_left; ( go_simp; rfl); simp only [Act.put, List.setIfInBounds_toArray, List.set_cons_zero, List.set_cons_succ])
  (refine LexW.callR (f := ?_) (args := ?_) rfl rfl (fun w1 => ?_) (fun w1 he hdep => ?_) (fun v hv => ?_); rotate_left 2; (go_simp; refine ⟨?_, ?_⟩ <;> rfl); ( refine (s_own bv ov d cv v w1 hd1 (by omega) (HV.out.ext (GX.out.trans he))).mono ?_; rintro e w2 ⟨g2, rc2, rfl, ho, x2⟩; exact ⟨_, rfl, x2, g2, rc2, rfl, ho.mono he.size⟩); simp only [Act.put, List.setIfInBounds_toArray, List.set_cons_zero, List.set_cons_succ])
  obtain ⟨_, g11, c11, rfl, _⟩ := hv
  (refine LexW.pure (v := ?_) rfl rfl (fun w1 he => ?_) ?_; rotate_left; ( have e1 := he.cell T0.out; have e2 := he.cell T1.out; go_simp; rfl); simp only [Act.put, List.setIfInBounds_toArray, List.set_cons_zero, List.set_cons_succ])
  (refine LexW.pure (v := ?_) rfl rfl (fun w1 he => ?_) ?_; rotate_left; ( have e1 := he.cell T0.out; have e2 := he.cell T1.out; go_simp; rfl); simp only [Act.put, List.setIfInBounds_toArray, List.set_cons_zero, List.set_cons_succ])
  (refine LexW.pure (v := ?_) rfl rfl (fun w1 he => ?_) ?_; rotate_left; ( go_simp; rfl); simp only [Act.put, List.setIfInBounds_toArray, List.set_cons_zero, List.set_cons_succ])
  (refine LexW.pure (v := ?_) rfl rfl (fun w1 he => ?_) ?_; rotate_left; ( go_simp; rfl); simp only [Act.put, List.setIfInBounds_toArray, List.set_cons_zero, List.set_cons_succ])
  (refine LexW.pure (v := ?_) rfl rfl (fun w1 he => ?_) ?_; rotate_left; ( go_simp; rfl); simp only [Act.put, List.setIfInBounds_toArray, List.set_cons_zero, List.set_cons_succ])
  (refine LexW.rel rfl rfl (fun w1 he hdep => ?_) (fun v hv => ?_); ( exact ⟨.slice (some ⟨w1.heap.size, 0, none⟩) 2 2, w1.alloc (.cells #[.int .i64 J, .int .i64 I] 2), (by go_simp), ext_alloc _ _, _, rfl, (by simp), (by simp)⟩); simp only [Act.put, List.setIfInBounds_toArray, List.set_cons_zero, List.set_cons_succ])
  obtain ⟨_, g17, rfl, _⟩ := hv
  refine LexW.nil (fun w3 he hkn => ?_)
  obtain ⟨_, _, q11, r11⟩ : (SPred.ownS w0.drew.heap.size d v).holds (.slice (some ⟨g11, 0, none⟩) d c11) w3 := hkn (1, _) (by simp)
  cases q11
  obtain ⟨_, q17, r17, r17'⟩ : (SPred.two J I).holds (.slice (some ⟨g17, 0, none⟩) 2 2) w3 := hkn (7, _) (by simp)
  cases q17
  have R11 := Lib.hid r11
  have R17 := Lib.hid (rdC_two r17 r17')
  have X3 := Lib.hid he
  clear he hkn r11 r17 r17'
  go_wp2_with (at_builtin; refine wpList_appendAll rfl (.tmp 11) (.tmp 17) rfl rfl rfl R11.out R17.out (by omega) (by omega) (by omega) X3.out.size ?hk)
  case hk =>
    intro g5 c5 w5 ho5 hg5 he5
    have HO5 := Lib.hid ho5
    have X5 := Lib.hid (he5 w0.drew (Nat.le_refl _) X3.out)
    clear ho5 hg5 he5
    go_wp2_with (fail)
    have GY := Lib.hid (GX.out.trans (X5.out.trans (ext_drew w5)))
    have U0 := Lib.hid ((X5.out.trans (ext_drew w5)).cell T0.out)
    have U1 := Lib.hid ((X5.out.trans (ext_drew w5)).cell T1.out)
    have O5 := Lib.hid (HO5.out.ext (ext_drew w5))
    refine wp_region_lex [(9, .val (.int .i64 N)), (12, .ownS w.heap.size (d + 2) (infL d)), (13, .ownS w.heap.size (d + 2) (scaleL p (infL d) M (d + 2))), (14, .ownS w.heap.size (d + 2) (plusL p (v ++ [J, I]) (scaleL p (infL d) M (d + 2)) 1 (d + 2)))] (by kernel_rfl) (by kernel_rfl) ?_
    (refine LexW.pure (v := ?_) rfl rfl (fun w1 he => ?_) ?_; rotate_left; ( have e1 := he.cell U0.out; have e2 := he.cell U1.out; go_simp; rfl); simp only [Act.put, List.setIfInBounds_toArray, List.set_cons_zero, List.set_cons_succ])
    (refine LexW.pure (v := ?_) rfl rfl (fun w1 he => ?_) ?_; rotate_left; ( have e1 := he.cell U0.out; have e2 := he.cell U1.out; go_simp; rfl); simp only [Act.put, List.setIfInBounds_toArray, List.set_cons_zero, List.set_cons_succ])
    (refine LexW.pure (v := ?_) rfl rfl (fun w1 he => ?_) ?_; rotate_left; ( have e1 := he.cell U0.out; have e2 := he.cell U1.out; go_simp; rfl); simp only [Act.put, List.setIfInBounds_toArray, List.set_cons_zero, List.set_cons_succ])
    (refine LexW.pure (v := ?_) rfl rfl (fun w1 he => ?_) ?_; rotate_left; ( have e1 := he.cell U0.out; have e2 := he.cell U1.out; go_simp; rfl); simp only [Act.put, List.setIfInBounds_toArray, List.set_cons_zero, List.set_cons_succ])
    (refine LexW.pure (v := ?_) rfl rfl (fun w1 he => ?_) ?_; rotate_left; ( have e1 := he.cell U0.out; have e2 := he.cell U1.out; go_simp; rfl); simp only [Act.put, List.setIfInBounds_toArray, List.set_cons_zero, List.set_cons_succ])
    (refine LexW.pure (v := ?_) rfl rfl (fun w1 he => ?_) ?_; rotate_left; ( have e1 := he.cell U0.out; have e2 := he.cell U1.out; go_simp; rfl); simp only [Act.put, List.setIfInBounds_toArray, List.set_cons_zero, List.set_cons_succ])
    (refine LexW.pure (v := ?_) rfl rfl (fun w1 he => ?_) ?_; rotate_left; ( have e1 := he.cell U0.out; have e2 := he.cell U1.out; go_simp; rfl); simp only [Act.put, List.setIfInBounds_toArray, List.set_cons_zero, List.set_cons_succ])
    (refine LexW.pure (v := ?_) rfl rfl (fun w1 he => ?_) ?_; rotate_left; ( have e1 := he.cell U0.out; have e2 := he.cell U1.out; go_simp; rfl); simp only [Act.put, List.setIfInBounds_toArray, List.set_cons_zero, List.set_cons_succ])
    (refine LexW.pure (v := ?_) rfl rfl (fun w1 he => ?_) ?_; rotate_left; ( have e1 := he.cell U0.out; have e2 := he.cell U1.out; go_simp; rfl); simp only [Act.put, List.setIfInBounds_toArray, List.set_cons_zero, List.set_cons_succ])
    (refine LexW.call (f := ?_) (args := ?_) rfl rfl (fun w1 => ?_) (fun w1 he hdep => ?_) ?_; rotate_left 2; (go_simp; refine ⟨?_, ?_⟩ <;> rfl); ( rw [HN.out]; exact s_pair p a d cap qs _ cv v _ cv v w1 (by omega) (by omega) (by omega) (HQ.out.ext (GY.out.trans he)) HQB.out (HV.out.ext (GY.out.trans he)) HG.out (HV.out.ext (GY.out.trans he)) HG.out); simp only [Act.put, List.setIfInBounds_toArray, List.set_cons_zero, List.set_cons_succ])
    (refine LexW.pure (v := ?_) rfl rfl (fun w1 he => ?_) ?_; rotate_left; ( have e1 := he.cell U0.out; have e2 := he.cell U1.out; go_simp; rfl); simp only [Act.put, List.setIfInBounds_toArray, List.set_cons_zero, List.set_cons_succ])
    (refine LexW.pure (v := ?_) rfl rfl (fun w1 he => ?_) ?_; rotate_left; ( have e1 := he.cell U0.out; have e2 := he.cell U1.out; go_simp; rfl); simp only [Act.put, List.setIfInBounds_toArray, List.set_cons_zero, List.set_cons_succ])
    (refine LexW.callR (f := ?_) (args := ?_) rfl rfl (fun w1 => ?_) (fun w1 he hdep => ?_) (fun v hv => ?_); rotate_left 2; (go_simp; refine ⟨?_, ?_⟩ <;> rfl); ( refine (s_infinity p a d cap w1 (by omega)).mono ?_; rintro e w2 ⟨g, rc, rfl, ho, g2⟩; exact ⟨_, rfl, g2, g, rc, rfl, ho.mono (Nat.le_trans GY.out.size he.size)⟩); simp only [Act.put, List.setIfInBounds_toArray, List.set_cons_zero, List.set_cons_succ])
    obtain ⟨_, g31, c31, rfl, _⟩ := hv
    (refine LexW.callR (f := ?_) (args := ?_) rfl rfl (fun w1 => ?_) (fun w1 he hdep => ?_) (fun v hv => ?_); rotate_left 2; (go_simp; refine ⟨?_, ?_⟩ <;> rfl); ( obtain ⟨_, _, q31, r31⟩ : (SPred.ownS w.heap.size (d + 2) (infL d)).holds (.slice (some ⟨g31, 0, none⟩) (d + 2) c31) w1 := hdep (12, 31) (by decide +kernel); cases q31; refine (s_scale11 p _ (d + 2) c31 (infL d) M w1 (by omega) (by omega) (by omega) (by omega) r31.rd HIG.out).mono ?_; rintro e w2 ⟨g, rc, rfl, ho, g2⟩; exact ⟨_, rfl, g2, g, rc, rfl, ho.mono (Nat.le_trans GY.out.size he.size)⟩); simp only [Act.put, List.setIfInBounds_toArray, List.set_cons_zero, List.set_cons_succ])
    obtain ⟨_, g32, c32, rfl, _⟩ := hv
    (refine LexW.callR (f := ?_) (args := ?_) rfl rfl (fun w1 => ?_) (fun w1 he hdep => ?_) (fun v hv => ?_); rotate_left 2; (go_simp; refine ⟨?_, ?_⟩ <;> rfl); ( obtain ⟨_, _, q32, r32⟩ : (SPred.ownS w.heap.size (d + 2) (scaleL p (infL d) M (d + 2))).holds (.slice (some ⟨g32, 0, none⟩) (d + 2) c32) w1 := hdep (13, 32) (by decide +kernel); cases q32; refine (s_add11 p _ _ (d + 2) c5 c32 (v ++ [J, I]) (scaleL p (infL d) M (d + 2)) w1 (by omega) (by omega) (by omega) (O5.out.rd.ext he) r32.rd HOB.out (scale_good (by omega))).mono ?_; rintro e w2 ⟨g, rc, rfl, ho, g2⟩; exact ⟨_, rfl, g2, g, rc, rfl, ho.mono (Nat.le_trans GY.out.size he.size)⟩); simp only [Act.put, List.setIfInBounds_toArray, List.set_cons_zero, List.set_cons_succ])
    obtain ⟨_, g33, c33, rfl, _⟩ := hv
    (refine LexW.pure (v := ?_) rfl rfl (fun w1 he => ?_) ?_; rotate_left; ( have e1 := he.cell U0.out; have e2 := he.cell U1.out; go_simp; rfl); simp only [Act.put, List.setIfInBounds_toArray, List.set_cons_zero, List.set_cons_succ])
    refine LexW.nil (fun w3 he hkn => ?_)
    obtain ⟨_, _, q33, r33⟩ : (SPred.ownS w.heap.size (d + 2) (plusL p (v ++ [J, I]) (scaleL p (infL d) M (d + 2)) 1 (d + 2))).holds (.slice (some ⟨g33, 0, none⟩) (d + 2) c33) w3 := hkn (14, _) (by simp)
    cases q33
    have R33 := Lib.hid r33
    have HE := Lib.hid (GY.out.trans he)
    clear he hkn r33
    go_wp2_with (fail)
    go_ret
    exact ⟨_, _, rfl, by rw [← HP.out]; exact R33.out, HE.out⟩

end Go.Proofs.Ytnabpmafcflljaa

/-
  The codes of spaces that can be extended.
  No condition.
-/
namespace Go.Proofs.Ytnabpmafcflljaa
set_option maxRecDepth 100000
open Go.RowKit

def code18 (p : Int) (qs : List Int) (vs : List (List Int)) : Int := if spaceB p qs = true then (if qs.length ≤ 4 then (if vs.all (vecB p qs.length) = true then 0 else 2) else 3) else 1
theorem code18_zero {p : Int} {qs : List Int} {vs : List (List Int)} (h : code18 p qs vs = 0) : spaceB p qs = true ∧ qs.length ≤ 4 ∧ vs.all (vecB p qs.length) = true := by
  unfold code18 at h
  split at h
  · rename_i h1
    split at h
    · rename_i h2
      split at h
      · rename_i h3; exact ⟨h1, h2, h3⟩
      · cases h
    · cases h
  · cases h
theorem extL_space {p : Int} {qs : List Int} (hs : spaceB p qs = true) (h4 : qs.length ≤ 4) : spaceB p (extL p qs) = true := by
  obtain ⟨hpr, hd1, hd6, hqb⟩ := space_of hs
  unfold spaceB
  rw [hpr, extL_isB (prime_bd hpr).1 hqb, extL_len]
  simp [inB]; omega
def code18L (p : Int) (qs : List Int) (vs : List (List Int)) : Int := if code18 p qs vs = 0 then (if vs.length ≤ 16 then 0 else 2) else code18 p qs vs
theorem code18L_zero {p : Int} {qs : List Int} {vs : List (List Int)} (h : code18L p qs vs = 0) : code18 p qs vs = 0 ∧ vs.length ≤ 16 := by
  unfold code18L at h
  split at h
  · rename_i h1
    split at h
    · rename_i h2; exact ⟨h1, h2⟩
    · cases h
  · rename_i h1; exact absurd h h1

set_option maxHeartbeats 2000000 in
theorem c_checkPlaces (p : Int) (a : Option Addr) (d cap : Nat) (qs : List Int) (al : Option Addr) (n cl : Nat) (vs : List (List Int)) (w : World) (hd : d ≤ 4194304) (hl : n ≤ 4194304) (hr : ∀ i, i < n → (nthR vs i).length ≤ 4194304)
    (hq : RdC w a d qs) (hx : RdR w al n vs) :
    Calls Try.prog 71 #[.agg #[.int .i64 p, .slice a d cap], .slice al n cl, .slice none 0 0] w fun e w' => e = .returned (.int .i64 (code18 p qs vs)) ∧ Ext w w' := by
  have Hr := Lib.hid hr
  have HQ := Lib.hid hq
  have HX := Lib.hid hx
  have hdl := hq.1
  clear hr hq hx
  cases hs : spaceB p qs
  · have HS := Lib.hid hs
    have HC := Lib.hid (show code18 p qs vs = 1 by simp [code18, hs])
    clear hs
    go_enter Try.func71, Try.ntmps71
    go_wp2_with (go_at_call 82; refine (c_isSpace _ _ _ _ _ _ hd (HQ.out.ext (ext_alloc _ _))).mono ?_; rintro e w1 ⟨rfl, g1⟩; rw [HS.out]; have hcc := Ext.cells g1)
    go_ret
    exact ⟨ret_int HC.out.symm, (ext_alloc _ _).trans g1⟩
  · obtain ⟨hpr, hd1, hd6, hqb⟩ := space_of hs
    have hpb := prime_bd hpr
    rw [hdl] at hd1
    have HS := Lib.hid hs
    have hcb : ((0 : Int) != 0) = false := by simp
    have hcb2 : ((2 : Int) != 0) = true := by simp
    by_cases h4 : d ≤ 4
    · have h4q : qs.length ≤ 4 := by omega
      have HV2 := Lib.hid (show codeV p (extL p qs) [] = 0 by unfold codeV; rw [extL_space hs h4q]; simp)
      cases ha : vs.all (vecB p qs.length)
      · have HV := Lib.hid (show codeV p qs vs = 2 by unfold codeV; rw [hs, ha]; rfl)
        have HC := Lib.hid (show code18 p qs vs = 2 by unfold code18; rw [if_pos hs, if_pos h4q, ha]; rfl)
        clear hs ha hpr hqb hd6 hdl h4q
        go_enter Try.func71, Try.ntmps71
        go_wp2_with (first | (go_at_call 82; refine (c_isSpace _ _ _ _ _ _ hd (HQ.out.ext (ext_alloc _ _))).mono ?_; rintro e w1 ⟨rfl, g1⟩; rw [HS.out]; have hcc := Ext.cells g1; try simp only [World.size_alloc] at hcc) | (go_at_call 49; refine (c_dim _ _ _ _ _).mono ?_; rintro e w2 ⟨rfl, g2⟩; have hcc2 := Ext.cells (g1.trans g2); try simp only [World.size_alloc] at hcc2) | (go_at_call 117; refine (c_checkVectors p a d cap qs al n cl vs _ hd hl Hr.out (HQ.out.ext ((ext_alloc _ _).trans (g1.trans g2))) (HX.out.ext ((ext_alloc _ _).trans (g1.trans g2)))).mono ?_; rintro e w3 ⟨rfl, g3⟩; rw [HV.out]; have hcc3 := Ext.cells ((g1.trans g2).trans g3); try simp only [World.size_alloc] at hcc3))
        go_ret
        exact ⟨ret_int HC.out.symm, (ext_alloc _ _).trans ((g1.trans g2).trans g3)⟩
      · have HV := Lib.hid (show codeV p qs vs = 0 by unfold codeV; rw [hs, ha]; rfl)
        have HC := Lib.hid (show code18 p qs vs = 0 by unfold code18; rw [if_pos hs, if_pos h4q, if_pos ha])
        clear hs ha hpr hqb hd6 hdl h4q
        go_enter Try.func71, Try.ntmps71
        go_wp2_with (first | (go_at_call 82; refine (c_isSpace _ _ _ _ _ _ hd (HQ.out.ext (ext_alloc _ _))).mono ?_; rintro e w1 ⟨rfl, g1⟩; rw [HS.out]; have hcc := Ext.cells g1; try simp only [World.size_alloc] at hcc) | (go_at_call 49; refine (c_dim _ _ _ _ _).mono ?_; rintro e w2 ⟨rfl, g2⟩; have hcc2 := Ext.cells (g1.trans g2); try simp only [World.size_alloc] at hcc2) | (go_at_call 39; refine (c_extended p a d cap qs _ (by omega) (by omega) (by omega) (by omega) (HQ.out.ext ((ext_alloc _ _).trans ((g1.trans g2).trans g3)))).mono ?_; rintro e w4 ⟨ge, re, rfl, he4, g4⟩; have HE4 := Lib.hid he4; clear he4) | (go_at_call 117; refine (c_checkVectors p (some ⟨ge, 0, none⟩) (d + 2) re (extL p qs) none 0 0 [] _ (by omega) (by omega) (fun _ hi => absurd hi (Nat.not_lt_zero _)) HE4.out.rd ⟨rfl, fun _ hi => absurd hi (Nat.not_lt_zero _)⟩).mono ?_; rintro e w5 ⟨rfl, g5⟩; rw [HV2.out]) | (go_at_call 117; refine (c_checkVectors p a d cap qs al n cl vs _ hd hl Hr.out (HQ.out.ext ((ext_alloc _ _).trans (g1.trans g2))) (HX.out.ext ((ext_alloc _ _).trans (g1.trans g2)))).mono ?_; rintro e w3 ⟨rfl, g3⟩; rw [HV.out]; have hcc3 := Ext.cells ((g1.trans g2).trans g3); try simp only [World.size_alloc] at hcc3))
        go_ret
        exact ⟨ret_int HC.out.symm, ((ext_alloc _ _).trans ((g1.trans g2).trans g3)).trans (g4.trans g5)⟩
    · have HC := Lib.hid (show code18 p qs vs = 3 by unfold code18; rw [if_pos hs, if_neg (by omega)])
      clear hs hpr hqb hd6 hdl
      go_enter Try.func71, Try.ntmps71
      go_wp2_with (first | (go_at_call 82; refine (c_isSpace _ _ _ _ _ _ hd (HQ.out.ext (ext_alloc _ _))).mono ?_; rintro e w1 ⟨rfl, g1⟩; rw [HS.out]; have hcc := Ext.cells g1; try simp only [World.size_alloc] at hcc) | (go_at_call 49; refine (c_dim _ _ _ _ _).mono ?_; rintro e w2 ⟨rfl, g2⟩; have hcc2 := Ext.cells (g1.trans g2); try simp only [World.size_alloc] at hcc2))
      go_ret
      exact ⟨ret_int HC.out.symm, (ext_alloc _ _).trans (g1.trans g2)⟩
set_option maxHeartbeats 1000000 in
theorem c_checkSome (p : Int) (a : Option Addr) (d cap : Nat) (qs : List Int) (al : Option Addr) (n cl : Nat) (vs : List (List Int)) (w : World) (hd : d ≤ 4194304) (hl : n ≤ 4194304) (hr : ∀ i, i < n → (nthR vs i).length ≤ 4194304)
    (hq : RdC w a d qs) (hx : RdR w al n vs) :
    Calls Try.prog 37 #[.agg #[.int .i64 p, .slice a d cap], .slice al n cl] w fun e w' => e = .returned (.int .i64 (code18L p qs vs)) ∧ Ext w w' := by
  have Hr := Lib.hid hr
  have hxl := hx.1
  clear hr
  by_cases hc : code18 p qs vs = 0
  · have HC := Lib.hid hc
    have hcb : ((0 : Int) != 0) = false := by simp
    by_cases h16 : n ≤ 16
    · have HF := Lib.hid (show code18L p qs vs = 0 by unfold code18L; rw [if_pos hc, if_pos (by omega)])
      clear hc hxl
      go_enter Try.func37, Try.ntmps37
      go_wp2_with (go_at_call 71; refine (c_checkPlaces p a d cap qs al n cl vs _ hd hl Hr.out (hq.ext (ext_alloc _ _)) (hx.ext (ext_alloc _ _))).mono ?_; rintro e w1 ⟨rfl, g1⟩; rw [HC.out])
      go_ret
      exact ⟨ret_int HF.out.symm, (ext_alloc _ _).trans g1⟩
    · have HF := Lib.hid (show code18L p qs vs = 2 by unfold code18L; rw [if_pos hc, if_neg (by omega)])
      clear hc hxl
      go_enter Try.func37, Try.ntmps37
      go_wp2_with (go_at_call 71; refine (c_checkPlaces p a d cap qs al n cl vs _ hd hl Hr.out (hq.ext (ext_alloc _ _)) (hx.ext (ext_alloc _ _))).mono ?_; rintro e w1 ⟨rfl, g1⟩; rw [HC.out])
      go_ret
      exact ⟨ret_int HF.out.symm, (ext_alloc _ _).trans g1⟩
  · have HF := Lib.hid (show code18L p qs vs = code18 p qs vs by unfold code18L; rw [if_neg hc])
    have hcb : (code18 p qs vs != 0) = true := by simp [hc]
    clear hc hxl
    go_enter Try.func37, Try.ntmps37
    go_wp2_with (go_at_call 71; refine (c_checkPlaces p a d cap qs al n cl vs _ hd hl Hr.out (hq.ext (ext_alloc _ _)) (hx.ext (ext_alloc _ _))).mono ?_; rintro e w1 ⟨rfl, g1⟩)
    go_ret
    exact ⟨ret_int HF.out.symm, (ext_alloc _ _).trans g1⟩
set_option maxHeartbeats 2000000 in
theorem s_code18 (p : Int) (a : Option Addr) (d cap : Nat) (qs : List Int) (al : Option Addr) (n cl : Nat) (vs : List (List Int)) (w : World) (hd : d ≤ 4194304) (hl : n ≤ 4194304) (hr : ∀ i, i < n → (nthR vs i).length ≤ 4194304)
    (hq : RdC w a d qs) (hx : RdR w al n vs) :
    Calls Try.prog 62 #[.agg #[.int .i64 p, .slice a d cap], .slice al n cl] w fun e w' => e = .returned (.int .i64 (code18 p qs vs)) ∧ Ext w w' := by
  have Hr := Lib.hid hr
  have HQ := Lib.hid hq
  have HL := Lib.hid hx.1
  have HR := Lib.hid hx.2
  have hdl := hq.1
  clear hr hq hx
  cases hs : spaceB p qs
  · have HS := Lib.hid hs
    have HC := Lib.hid (show code18 p qs vs = 1 by simp [code18, hs])
    clear hs
    go_enter Try.func62, Try.ntmps62
    go_wp2_with (go_at_call 87; refine (s_is _ _ _ _ _ _ hd (HQ.out.ext (ext_alloc _ _))).mono ?_; rintro e w1 ⟨rfl, g1⟩; rw [HS.out]; have hcc := Ext.cells g1)
    go_ret
    exact ⟨ret_int HC.out.symm, (ext_alloc _ _).trans g1⟩
  · obtain ⟨hpr, hd1, hd6, hqb⟩ := space_of hs
    have hpb := prime_bd hpr
    have HS := Lib.hid hs
    by_cases h4 : d ≤ 4
    · have HC := Lib.hid (show code18 p qs vs = if vs.all (vecB p d) = true then 0 else 2 by unfold code18; rw [if_pos hs, if_pos (by omega), hdl])
      clear hs hpr hqb hd1 hd6 hdl
      go_enter Try.func62, Try.ntmps62
      go_wp2_with (go_at_call 87; refine (s_is _ _ _ _ _ _ hd (HQ.out.ext (ext_alloc _ _))).mono ?_; rintro e w1 ⟨rfl, g1⟩; rw [HS.out]; have hq0 : w1.cell? ⟨w.heap.size, 0, none⟩ = some (.int .i64 p) := g1.cell (by simp); have hq1 : w1.cell? ⟨w.heap.size, 1, none⟩ = some (.slice a d cap) := g1.cell (by simp))
      have Q0 := Lib.hid hq0
      have Q1 := Lib.hid hq1
      have G1 := Lib.hid ((ext_alloc w (.cells #[.int .i64 p, .slice a d cap] 30)).trans g1)
      clear g1 hq0 hq1
      go_loopw [5] (fun i wr => ∃ k : Nat, k ≤ n ∧ i = .int .i64 k ∧ Hid (∀ j, j < k → vecB p d (nthR vs j) = true) ∧ Ext w1 wr) (fun i _ => n - (intOf i).toNat)
      case atStart => exact ⟨0, Nat.zero_le _, rfl, Lib.hid (fun j hj => by omega), Ext.refl _⟩
      case round =>
        obtain ⟨k, hk, rfl, HT, hext⟩ := hrel
        have HExt := Lib.hid hext
        clear hext
        by_cases hlt : k < n
        · obtain ⟨b, off, ai, ci, rfl, hc, hrow⟩ := HR.out k hlt
          have g2 := G1.out.trans HExt.out
          have HRow := Lib.hid (hrow.ext g2)
          have Hc0 := Lib.hid ((g2.trans (ext_drew _)).cell hc)
          have Hq0 := Lib.hid ((HExt.out.trans (ext_drew _)).cell Q0.out)
          have Hq1 := Lib.hid ((HExt.out.trans (ext_drew _)).cell Q1.out)
          clear hc hrow g2
          have hl0 := Hr.out k hlt
          cases hb : vecB p d (nthR vs k)
          all_goals
            have HB := Lib.hid hb
            clear hb
            go_wp2_with (fail)
            refine wp_region_lex [(5, .val (.bool (vecB p d (nthR vs k))))] (by kernel_rfl) (by kernel_rfl) ?_
            repeat' first | (refine LexW.pure (v := ?_) rfl rfl (fun w1 he => ?_) ?_; rotate_left; ( have hc0 := he.cell Hc0.out; have hq0 := he.cell Hq0.out; have hq1 := he.cell Hq1.out; go_simp; rfl); simp only [Act.put, List.setIfInBounds_toArray, List.set_cons_zero, List.set_cons_succ]) | (refine LexW.call (f := ?_) (args := ?_) rfl rfl (fun w1 => ?_) (fun w1 he hdep => ?_) ?_; rotate_left 2; (go_simp; refine ⟨?_, ?_⟩ <;> rfl); ( have H := s_isVector p a d cap ai _ ci (nthR vs k) w1 (by omega) (by omega) hl0 (HRow.out.ext ((ext_drew _).trans he)); exact H); simp only [Act.put, List.setIfInBounds_toArray, List.set_cons_zero, List.set_cons_succ])
            refine LexW.nil (fun w2 he hk => ?_)
            have X2 := Lib.hid (HExt.out.trans ((ext_drew _).trans he))
            clear he hk
            rw [HB.out]
            go_wp2_with (fail)
          · go_ret
            exact ⟨ret_int (by rw [HC.out, allV_false HL.out hlt HB.out]; rfl), G1.out.trans X2.out⟩
          · go_roundw
            case rel => exact ⟨k + 1, by omega, by go_num, Lib.hid (fun j hj => by
              by_cases hjk : j = k
              · subst hjk; exact HB.out
              · exact HT.out j (by omega)), X2.out⟩
            case measure => simp [intOf]; omega
        · go_wp2_with (fail)
          go_ret
          exact ⟨ret_int (by rw [HC.out, allV_true HL.out (fun j hj => HT.out j (by omega))]; rfl), G1.out.trans HExt.out⟩
    · have HC := Lib.hid (show code18 p qs vs = 3 by unfold code18; rw [if_pos hs, if_neg (by omega)])
      clear hs hpr hqb hd1 hd6 hdl
      go_enter Try.func62, Try.ntmps62
      go_wp2_with (go_at_call 87; refine (s_is _ _ _ _ _ _ hd (HQ.out.ext (ext_alloc _ _))).mono ?_; rintro e w1 ⟨rfl, g1⟩; rw [HS.out]; have hcc := Ext.cells g1)
      go_ret
      exact ⟨ret_int HC.out.symm, (ext_alloc _ _).trans g1⟩
set_option maxHeartbeats 1000000 in
theorem s_code18L (p : Int) (a : Option Addr) (d cap : Nat) (qs : List Int) (al : Option Addr) (n cl : Nat) (vs : List (List Int)) (w : World) (hd : d ≤ 4194304) (hl : n ≤ 4194304) (hr : ∀ i, i < n → (nthR vs i).length ≤ 4194304)
    (hq : RdC w a d qs) (hx : RdR w al n vs) :
    Calls Try.prog 31 #[.agg #[.int .i64 p, .slice a d cap], .slice al n cl] w fun e w' => e = .returned (.int .i64 (code18L p qs vs)) ∧ Ext w w' := by
  have Hr := Lib.hid hr
  have hxl := hx.1
  clear hr
  by_cases hc : code18 p qs vs = 0
  · have HC := Lib.hid hc
    have hcb : ((0 : Int) == 0) = true := by simp
    by_cases h16 : n ≤ 16
    · have HF := Lib.hid (show code18L p qs vs = 0 by unfold code18L; rw [if_pos hc, if_pos (by omega)])
      clear hc hxl
      go_enter Try.func31, Try.ntmps31
      go_wp2_with (go_at_call 62; refine (s_code18 p a d cap qs al n cl vs _ hd hl Hr.out (hq.ext (ext_alloc _ _)) (hx.ext (ext_alloc _ _))).mono ?_; rintro e w1 ⟨rfl, g1⟩; rw [HC.out])
      go_ret
      exact ⟨ret_int HF.out.symm, (ext_alloc _ _).trans g1⟩
    · have HF := Lib.hid (show code18L p qs vs = 2 by unfold code18L; rw [if_pos hc, if_neg (by omega)])
      clear hc hxl
      go_enter Try.func31, Try.ntmps31
      go_wp2_with (go_at_call 62; refine (s_code18 p a d cap qs al n cl vs _ hd hl Hr.out (hq.ext (ext_alloc _ _)) (hx.ext (ext_alloc _ _))).mono ?_; rintro e w1 ⟨rfl, g1⟩; rw [HC.out])
      go_ret
      exact ⟨ret_int HF.out.symm, (ext_alloc _ _).trans g1⟩
  · have HF := Lib.hid (show code18L p qs vs = code18 p qs vs by unfold code18L; rw [if_neg hc])
    have hcb : (code18 p qs vs == 0) = false := by simp [hc]
    clear hc hxl
    go_enter Try.func31, Try.ntmps31
    go_wp2_with (go_at_call 62; refine (s_code18 p a d cap qs al n cl vs _ hd hl Hr.out (hq.ext (ext_alloc _ _)) (hx.ext (ext_alloc _ _))).mono ?_; rintro e w1 ⟨rfl, g1⟩)
    go_ret
    exact ⟨ret_int HF.out.symm, (ext_alloc _ _).trans g1⟩
end Go.Proofs.Ytnabpmafcflljaa

/-
  The listed function WedgeOfPoints.
  No condition.
-/
namespace Go.Proofs.Ytnabpmafcflljaa
set_option maxRecDepth 100000
open Go.RowKit

def pointsL (p : Int) (qs : List Int) (vs : List (List Int)) (k : Nat) : List (List Int) := (List.range k).map fun i => pointL p qs (nthR vs i)
theorem pointsL_succ (p : Int) (qs : List Int) (vs : List (List Int)) (k : Nat) : pointsL p qs vs (k + 1) = pointsL p qs vs k ++ [pointL p qs (nthR vs k)] := by simp [pointsL, List.range_succ]
theorem pointsL_len (p : Int) (qs : List Int) (vs : List (List Int)) (k : Nat) : (pointsL p qs vs k).length = k := by simp [pointsL]
theorem pointsL_nth {p : Int} {qs : List Int} {vs : List (List Int)} {k i : Nat} (h : i < k) : nthR (pointsL p qs vs k) i = pointL p qs (nthR vs i) := by
  unfold pointsL; rw [nthR_map (by simpa using h)]; simp
theorem pointsL_good {p : Int} {qs : List Int} {vs : List (List Int)} {k d : Nat} (hp : 1 ≤ p) (hd : qs.length = d) : RowsG p (d + 2) (pointsL p qs vs k) := fun i hi => by
  rw [pointsL_len] at hi
  rw [pointsL_nth hi]
  exact pointL_good hp hd
def wpL (p : Int) (qs : List Int) (vs : List (List Int)) (n : Nat) : List Int := prodS p (extL p qs) tkW (pointsL p qs vs n) n
theorem prodS_cut {p : Int} {qs : List Int} {tk : Nat → Nat → Bool} {r1 r2 : List (List Int)} : ∀ k, (∀ i, i < k → nthR r1 i = nthR r2 i) → prodS p qs tk r1 k = prodS p qs tk r2 k
  | 0, _ => rfl
  | k + 1, h => by
    unfold prodS
    rw [prodS_cut k (fun i hi => h i (by omega)), h k (by omega)]
theorem wpL_succ (p : Int) (qs : List Int) (vs : List (List Int)) (k : Nat) : wpL p qs vs (k + 1) = prodL p (extL p qs) tkW (wpL p qs vs k) (vecL (2 ^ (extL p qs).length) (pointL p qs (nthR vs k))) := by
  unfold wpL
  show prodL p (extL p qs) tkW (prodS p (extL p qs) tkW (pointsL p qs vs (k + 1)) k) (vecL _ (nthR (pointsL p qs vs (k + 1)) k)) = _
  rw [pointsL_nth (by omega), prodS_cut k (fun i hi => (pointsL_nth (show i < k + 1 by omega)).trans (pointsL_nth hi).symm)]



end Go.Proofs.Ytnabpmafcflljaa

/-
  The listed function SphereThrough.
  No condition.
-/
namespace Go.Proofs.Ytnabpmafcflljaa
set_option maxRecDepth 100000
open Go.RowKit

/-- The vectors of the extension that are orthogonal to the points. -/
def sphK (p : Int) (qs : List Int) (vs : List (List Int)) : List (List Int) := kernL p (qs.length + 2) (wtsL p (extL p qs) (pointsL p qs vs vs.length) (qs.length + 2) vs.length)
def codeSp (p : Int) (qs : List Int) (vs : List (List Int)) : Int := if code18L p qs vs = 0 then (if (sphK p qs vs).length = 1 then 0 else 5) else code18L p qs vs
def sphL (p : Int) (qs : List Int) (vs : List (List Int)) : List Int := nthR (sphK p qs vs) 0
theorem sp_code {p : Int} {qs : List Int} {vs : List (List Int)} (h : code18L p qs vs ≠ 0) : codeSp p qs vs = code18L p qs vs := by unfold codeSp; rw [if_neg h]
theorem sp_many {p : Int} {qs : List Int} {vs : List (List Int)} (h : code18L p qs vs = 0) (h1 : (sphK p qs vs).length ≠ 1) : codeSp p qs vs = 5 := by unfold codeSp; rw [if_pos h, if_neg h1]
theorem sp_ok {p : Int} {qs : List Int} {vs : List (List Int)} (h : code18L p qs vs = 0) (h1 : (sphK p qs vs).length = 1) : codeSp p qs vs = 0 := by unfold codeSp; rw [if_pos h, if_pos h1]
theorem sp_zero {p : Int} {qs : List Int} {vs : List (List Int)} (h : codeSp p qs vs = 0) : code18L p qs vs = 0 ∧ (sphK p qs vs).length = 1 := by
  by_cases h0 : code18L p qs vs = 0
  · by_cases h1 : (sphK p qs vs).length = 1
    · exact ⟨h0, h1⟩
    · rw [sp_many h0 h1] at h; cases h
  · rw [sp_code h0] at h; exact absurd h h0
theorem sphL_good {p : Int} {qs : List Int} {vs : List (List Int)} (hp : primeB p = true) (h : (sphK p qs vs).length = 1) : Good p (qs.length + 2) (sphL p qs vs) :=
  (kernL_cnt (n := qs.length + 2) (rows := wtsL p (extL p qs) (pointsL p qs vs vs.length) (qs.length + 2) vs.length) hp).2 0 (by unfold sphK at h; omega)

theorem ret_pairS {x y : Int} (h : x = y) : Ending.returned (.tuple #[.slice none 0 0, .int .i64 x]) = .returned (.tuple #[.slice none 0 0, .int .i64 y]) := by rw [h]
/-- An empty slice. -/
def SPred.emptyI : SPred := ⟨fun v _ => ∃ g, v = .slice (some ⟨g, 0, none⟩) 0 0, fun _ _ _ h _ => h⟩
theorem append_emptyI (w : World) (b : Addr) (t : Addr) (v : Value) (c : Nat) (ty : TypeId) (hc : w.cell? (t.add 0) = some v) :
    (Builtin.append_ #[22, 22] ty #[.slice (some b) 0 0, .slice (some t) 1 c]).run Try.prog w =
    (Builtin.append_ #[22, 22] ty #[.slice none 0 0, .slice (some t) 1 c]).run Try.prog w := by
  obtain ⟨i0, hi, hz0, hz1, hz2⟩ := info_parts Try.infoI
  have hn : ∀ j u, [v][j]? = some u → w.cell? (t.add j) = some u := fun j u hj => by
    cases j with
    | zero => simp only [List.getElem?_cons_zero, Option.some.injEq] at hj; subst hj; exact hc
    | succ j => simp at hj
  have e : Builtin.nextslicecap (0 + 1) 0 * i0.bytes ≤ 281474976710656 := by
    rw [hz2]; decide
  rw [run_append_grow (P := Try.prog) w 22 ty 2 i0 (.int .i64 0) Try.underlying22 hi hz0 b 0 0 [] (by simp) (fun j u hj => by simp at hj) t 1 c [v] (by simp [hz1]) hn (by omega) (by omega) e,
    run_append_nil (P := Try.prog) w 22 ty 2 i0 (.int .i64 0) Try.underlying22 hi hz0 t 1 c [v] (by simp [hz1]) hn (by omega) (by omega) (by rw [hz2]; omega)]
  simp
/-- An own row, or the empty one that was made at the start. -/
def OwnCW (B : Nat) (w : World) (a : Option Addr) (n cap : Nat) (xs : List Int) : Prop :=
  (n = 0 ∧ cap = 0 ∧ xs = [] ∧ ∃ g, a = some ⟨g, 0, none⟩) ∨ OwnC B w a n cap xs
theorem OwnCW.ext {B : Nat} {w w' : World} {a : Option Addr} {n cap : Nat} {xs : List Int} (h : OwnCW B w a n cap xs) (he : Ext w w') : OwnCW B w' a n cap xs := by
  rcases h with h | h
  · exact .inl h
  · exact .inr (h.ext he)
theorem wpList_pushCW {ops : Array Oper} {rest : List Oper} {o : Oper} {a : Act} {Q : Exit → Act → World → Prop} {w : World} (hgd : o.guard = none) (s x : Operand)
    (ho : o.op = .call { callee := .builtin .append, args := #[s, x], argTypes := #[22, 22] })
    {B : Nat} {ra : Option Addr} {n cap : Nat} {xs : List Int} {v : Int} {g : Nat} (hs : a.eval s = .slice ra n cap) (hx : a.eval x = .slice (some ⟨g, 0, none⟩) 1 1)
    (hown : OwnCW B w ra n cap xs) (hc : w.cell? ⟨g, 0, none⟩ = some (.int .i64 v)) (hn : n ≤ 4194304) (hB : B ≤ w.heap.size)
    (h : ∀ g' cap' w', OwnC B w' (some ⟨g', 0, none⟩) (n + 1) cap' (xs ++ [v]) → (∀ W : World, W.heap.size ≤ B → Ext W w → Ext W w') →
      wpList Try.prog ops Q rest (a.put o.dst (.slice (some ⟨g', 0, none⟩) (n + 1) cap')) w') : wpList Try.prog ops Q (o :: rest) a w := by
  refine wpList_plain hgd fun K hK => ?_
  have hrun : ∃ g' cap' w', (Builtin.append_ #[22, 22] o.type #[.slice ra n cap, .slice (some ⟨g, 0, none⟩) 1 1]).run Try.prog w = .ok (.slice (some ⟨g', 0, none⟩) (n + 1) cap') w' ∧
      OwnC B w' (some ⟨g', 0, none⟩) (n + 1) cap' (xs ++ [v]) ∧ (∀ W : World, W.heap.size ≤ B → Ext W w → Ext W w') := by
    rcases hown with ⟨rfl, rfl, rfl, g0, rfl⟩ | hown
    · obtain ⟨g', cap', w', h1, h2, _, h4⟩ := run_push (own_nil B w) hc hn hB o.type
      exact ⟨g', cap', w', by rw [append_emptyI w _ _ (.int .i64 v) 1 o.type (by simpa [Addr.add] using hc)]; exact h1, h2, h4⟩
    · obtain ⟨g', cap', w', h1, h2, _, h4⟩ := run_push hown hc hn hB o.type
      exact ⟨g', cap', w', h1, h2, h4⟩
  obtain ⟨g', cap', w', hr, h1, h3⟩ := hrun
  unfold Oper.wp execOp
  simp only [ho, resolve, invoke, builtin, Sem.run_bind, Sem.run_pure, Result.andThen_ok, List.map_toArray, List.map_cons, List.map_nil, hs, hx, hr]
  exact hK _ _ (h g' cap' w' h1 h3)
set_option maxHeartbeats 8000000 in
set_option maxRecDepth 100000 in
theorem c_SphereThrough_all (p : Int) (a : Option Addr) (d cap : Nat) (qs : List Int) (ax1 : Option Addr) (n1 cx1 : Nat) (xs1 : List (List Int)) (w : World) (hd : d ≤ 4194304) (hn1 : n1 ≤ 4194304) (hr1 : ∀ i, i < n1 → (nthR xs1 i).length ≤ 4194304) (hq : RdC w a d qs) (hx1 : RdR w ax1 n1 xs1) :
    Calls Try.prog 13 #[.agg #[.int .i64 p, .slice a d cap], .slice ax1 n1 cx1] w fun e w' => (codeSp p qs xs1 ≠ 0 ∧ e = .returned (.tuple #[.slice none 0 0, .int .i64 (codeSp p qs xs1)]) ∧ Ext w w') ∨
      (codeSp p qs xs1 = 0 ∧ ∃ ra rc, e = .returned (.tuple #[.slice ra (d + 2) rc, .int .i64 0]) ∧ OwnC w.heap.size w' ra (d + 2) rc (sphL p qs xs1) ∧ Ext w w') := by
  have HQ := Lib.hid hq
  have HX := Lib.hid hx1
  have Hr := Lib.hid hr1
  have HXL := Lib.hid hx1.1
  have HQL := Lib.hid hq.1
  clear hq hx1 hr1
  go_enter Try.func13, Try.ntmps13
  go_wp2_with (fail)
  refine Calls.mono (c_checkSome p a d cap qs ax1 n1 cx1 xs1 _ hd hn1 Hr.out (HQ.out.ext (ext_alloc _ _)) (HX.out.ext (ext_alloc _ _))) ?_
  rintro e w1 ⟨rfl, g1⟩
  have G1 := Lib.hid ((ext_alloc w (.cells #[.int .i64 p, .slice a d cap] 30)).trans g1)
  have s0 : w1.cell? ⟨w.heap.size, 0, none⟩ = some (.int .i64 p) := g1.cell (by simp)
  have s1 : w1.cell? ⟨w.heap.size, 1, none⟩ = some (.slice a d cap) := g1.cell (by simp)
  clear g1
  obtain ⟨cc, hcc⟩ : ∃ x, x = code18L p qs xs1 := ⟨_, rfl⟩
  rw [← hcc]
  by_cases hc : cc ≠ 0
  · have hcb : (cc != 0) = true := by simp [hc]
    have HC := Lib.hid ((sp_code (by rw [← hcc]; exact hc)).trans hcc.symm)
    clear hcc
    have HN := Lib.hid hc
    clear hc
    go_wp2_with (fail)
    go_ret2
    exact .inl ⟨by rw [HC.out]; exact HN.out, ret_pairS HC.out.symm, G1.out⟩
  obtain rfl : cc = 0 := by omega
  have HC := Lib.hid hcc.symm
  have hcb : ((0 : Int) != 0) = false := by simp
  obtain ⟨hc0, h16⟩ := code18L_zero hcc.symm
  obtain ⟨hs, h4, ha⟩ := code18_zero hc0
  obtain ⟨hpr, hd1, hd6, hqb⟩ := space_of hs
  have hpb := prime_bd hpr
  rw [HQL.out] at h4 ha hd1
  rw [HXL.out] at h16
  have HPR := Lib.hid hpr
  have HQB := Lib.hid hqb
  have HEB := Lib.hid (extL_isB (p := p) (by omega) hqb)
  have HG := Lib.hid (rows_good ha)
  have HLen := Lib.hid (show ∀ i, i < n1 → (nthR xs1 i).length = d from fun i hi => (HG.out i (by rw [HXL.out]; exact hi)).1)
  have HKD : Hid (sphK p qs xs1 = kernL p (d + 2) (wtsL p (extL p qs) (pointsL p qs xs1 n1) (d + 2) n1)) := Lib.hid (by unfold sphK; rw [HXL.out, HQL.out])
  have HPG := Lib.hid (pointsL_good (p := p) (vs := xs1) (k := n1) (show 1 ≤ p by omega) HQL.out)
  have Q0 := Lib.hid s0
  have Q1 := Lib.hid s1
  clear hcc hc hc0 hs ha hpr hqb s0 s1 hd6
  have hs0 := Q0.out
  have hs1 := Q1.out
  go_wp2_with (fail)
  clear hs0 hs1
  go_loopw [7, 20] (fun v i wr => ∃ (k g rc : Nat), k ≤ n1 ∧ i = .int .i64 k ∧ v = .slice (some ⟨g, 0, none⟩) k rc ∧ OwnW w1.heap.size wr (some ⟨g, 0, none⟩) k rc (pointsL p qs xs1 k) ∧ Ext w1 wr) (fun _ i _ => n1 - (intOf i).toNat)
  case atStart => exact ⟨0, _, _, Nat.zero_le _, rfl, rfl, OwnW.start _ _ _, ext_alloc _ _⟩
  case round =>
    obtain ⟨k, g, rc, hk, rfl, rfl, hown, hext⟩ := hrel
    have HOwn := Lib.hid hown
    have HExt := Lib.hid hext
    have hs0 := hext.cell Q0.out
    have hs1 := hext.cell Q1.out
    clear hown hext
    by_cases hlt : k < n1
    · obtain ⟨b, off, ak, ck, rfl, hc0, hrk⟩ := HX.out.2 k hlt
      rw [HLen.out k hlt] at hc0 hrk
      have hc0' := (G1.out.trans HExt.out).cell hc0
      have HRk := Lib.hid (hrk.ext (G1.out.trans HExt.out))
      have HGk := Lib.hid (HG.out k (by rw [HXL.out]; exact hlt))
      clear hc0 hrk
      go_wp2_with (first
        | (go_at_call 38; refine (c_point p a d cap qs ak ck (nthR xs1 k) _ hd1 h4 HPR.out (HQ.out.ext (G1.out.trans HExt.out)) HQB.out HRk.out HGk.out).mono ?_; rintro e w4 ⟨g4, r4, rfl, ho4, x4⟩; have HO4 := Lib.hid ho4; have X4 := Lib.hid x4; clear ho4 x4)
        | (at_builtin; refine wpList_pushRW (w0 := wr) rfl (.tmp 24) (.tmp 28) rfl rfl rfl HOwn.out (X4.out.trans (ext_alloc _ _)) (HO4.out.ext (ext_alloc _ _)) ?hc (by omega) HExt.out.size ?hk))
      case hc => exact cell_new _ _ rfl _ _
      case hk =>
        intro g' cap' w3 ho3 he3
        have HO3 := Lib.hid ho3
        have HE3 := Lib.hid (he3 w1 (Nat.le_refl _) ((HExt.out.trans X4.out).alloc _))
        clear ho3 he3 hs0 hs1 hc0'
        go_wp2_with (fail)
        go_roundw
        case rel => exact ⟨k + 1, g', cap', by omega, by go_num, rfl, by rw [pointsL_succ]; exact .inr HO3.out, HE3.out⟩
        case measure => simp [intOf]; omega
    · obtain rfl : k = n1 := by omega
      go_wp2_with (fail)
      refine Calls.mono (c_extended p a d cap qs _ hd1 (by omega) (by omega) (by omega) (HQ.out.ext (G1.out.trans HExt.out))) ?_
      rintro e w4 ⟨g4, r4, rfl, ho4, x4⟩
      have HO4 := Lib.hid ho4
      have X4 := Lib.hid x4
      clear ho4 x4 hs0 hs1
      go_wp2_with (fail)
      refine Calls.mono (c_orthogonal p _ (d + 2) r4 (extL p qs) _ k rc (pointsL p qs xs1 k) _ HPR.out (by omega) (by omega) (by omega) HO4.out.rd HEB.out (HOwn.out.rd.ext X4.out) HPG.out) ?_
      rintro e w5 ⟨g5, c5, rfl, ho5, x5⟩
      rw [← HKD.out] at ho5 ⊢
      have HO5 := Lib.hid (ho5.mono ((G1.out.trans HExt.out).trans X4.out).size)
      have HE5 := Lib.hid ((G1.out.trans HExt.out).trans (X4.out.trans x5))
      clear ho5 x5
      by_cases h1 : (sphK p qs xs1).length = 1
      · have HZ := Lib.hid (sp_ok HC.out h1)
        have HSG := Lib.hid (sphL_good HPR.out h1)
        rw [h1] at HO5 ⊢
        obtain ⟨ai, ci, hci, hoi⟩ := HO5.out.at (i := 0) (by omega)
        rw [show nthR (sphK p qs xs1) 0 = sphL p qs xs1 from rfl, HSG.out.1, HQL.out] at hci hoi
        have HOI := Lib.hid hoi
        clear h1 hoi
        go_wp2_with (fail)
        go_ret2
        exact .inr ⟨HZ.out, _, _, rfl, HOI.out, HE5.out⟩
      · have HZ := Lib.hid (sp_many HC.out h1)
        have h1i : ¬ (((sphK p qs xs1).length : Nat) : Int) = 1 := by omega
        have h1b : ((((sphK p qs xs1).length : Nat) : Int) != 1) = true := by simpa using h1i
        clear h1
        go_wp2_with (fail)
        go_ret2
        exact .inl ⟨by rw [HZ.out]; decide, ret_pairS HZ.out.symm, HE5.out⟩
set_option maxHeartbeats 8000000 in
set_option maxRecDepth 100000 in
theorem s_SphereThrough_all (p : Int) (a : Option Addr) (d cap : Nat) (qs : List Int) (ax1 : Option Addr) (n1 cx1 : Nat) (xs1 : List (List Int)) (w : World) (hd : d ≤ 4194304) (hn1 : n1 ≤ 4194304) (hr1 : ∀ i, i < n1 → (nthR xs1 i).length ≤ 4194304) (hq : RdC w a d qs) (hx1 : RdR w ax1 n1 xs1) :
    Calls Try.prog 10 #[.agg #[.int .i64 p, .slice a d cap], .slice ax1 n1 cx1] w fun e w' => (codeSp p qs xs1 ≠ 0 ∧ e = .returned (.tuple #[.slice none 0 0, .int .i64 (codeSp p qs xs1)]) ∧ Ext w w') ∨
      (codeSp p qs xs1 = 0 ∧ ∃ ra rc, e = .returned (.tuple #[.slice ra (d + 2) rc, .int .i64 0]) ∧ OwnC w.heap.size w' ra (d + 2) rc (sphL p qs xs1) ∧ Ext w w') := by
  have HQ := Lib.hid hq
  have HX := Lib.hid hx1
  have Hr := Lib.hid hr1
  have HXL := Lib.hid hx1.1
  have HQL := Lib.hid hq.1
  clear hq hx1 hr1
  go_enter Try.func10, Try.ntmps10
  go_wp2_with (fail)
  refine Calls.mono (s_code18L p a d cap qs ax1 n1 cx1 xs1 _ hd hn1 Hr.out (HQ.out.ext (ext_alloc _ _)) (HX.out.ext (ext_alloc _ _))) ?_
  rintro e w1 ⟨rfl, g1⟩
  have G1 := Lib.hid ((ext_alloc w (.cells #[.int .i64 p, .slice a d cap] 30)).trans g1)
  have s0 : w1.cell? ⟨w.heap.size, 0, none⟩ = some (.int .i64 p) := g1.cell (by simp)
  have s1 : w1.cell? ⟨w.heap.size, 1, none⟩ = some (.slice a d cap) := g1.cell (by simp)
  clear g1
  obtain ⟨cc, hcc⟩ : ∃ x, x = code18L p qs xs1 := ⟨_, rfl⟩
  rw [← hcc]
  by_cases hc : cc ≠ 0
  · have hcb : (cc != 0) = true := by simp [hc]
    have HC := Lib.hid ((sp_code (by rw [← hcc]; exact hc)).trans hcc.symm)
    clear hcc
    have HN := Lib.hid hc
    clear hc
    go_wp2_with (fail)
    go_ret2
    exact .inl ⟨by rw [HC.out]; exact HN.out, ret_pairS HC.out.symm, G1.out⟩
  obtain rfl : cc = 0 := by omega
  have HC := Lib.hid hcc.symm
  have hcb : ((0 : Int) != 0) = false := by simp
  obtain ⟨hc0, h16⟩ := code18L_zero hcc.symm
  obtain ⟨hs, h4, ha⟩ := code18_zero hc0
  obtain ⟨hpr, hd1, hd6, hqb⟩ := space_of hs
  have hpb := prime_bd hpr
  rw [HQL.out] at h4 ha hd1
  rw [HXL.out] at h16
  have HPR := Lib.hid hpr
  have HQB := Lib.hid hqb
  have HEB := Lib.hid (extL_isB (p := p) (by omega) hqb)
  have HG := Lib.hid (rows_good ha)
  have HLen := Lib.hid (show ∀ i, i < n1 → (nthR xs1 i).length = d from fun i hi => (HG.out i (by rw [HXL.out]; exact hi)).1)
  have HKD : Hid (sphK p qs xs1 = kernL p (d + 2) (wtsL p (extL p qs) (pointsL p qs xs1 n1) (d + 2) n1)) := Lib.hid (by unfold sphK; rw [HXL.out, HQL.out])
  have HPG := Lib.hid (pointsL_good (p := p) (vs := xs1) (k := n1) (show 1 ≤ p by omega) HQL.out)
  have Q0 := Lib.hid s0
  have Q1 := Lib.hid s1
  clear hcc hc hc0 hs ha hpr hqb s0 s1 hd6
  have hs0 := Q0.out
  have hs1 := Q1.out
  go_wp2_with (fail)
  clear hs0 hs1
  refine Calls.mono (s_extended p a d cap qs _ hd1 (by omega) (by omega) (by omega) (HQ.out.ext G1.out)) ?_
  rintro e w2 ⟨ge, re, rfl, ho2, x2⟩
  obtain ⟨D, hD⟩ : ∃ D, D = d + 2 := ⟨_, rfl⟩
  have hD1 : 0 < D := by omega
  have hD6 : D ≤ 6 := by omega
  rw [← hD] at ho2 HKD HPG ⊢
  have HD := Lib.hid hD
  have HDL : Hid (qs.length + 2 = D) := Lib.hid (by rw [HQL.out, hD])
  clear hD
  have HO2 := Lib.hid ho2
  have X2 := Lib.hid x2
  clear ho2 x2
  go_wp2_with (fail)
  obtain ⟨V, hV⟩ : ∃ V, V = w2.alloc (.cells #[] 22) := ⟨_, rfl⟩
  obtain ⟨W, hW⟩ : ∃ W, W = V.alloc (.cells #[.int .i64 p, .slice (some ⟨ge, 0, none⟩) D re] 30) := ⟨_, rfl⟩
  have gV : Ext w2 V := by rw [hV]; exact ext_alloc _ _
  have gW : Ext V W := by rw [hW]; exact ext_alloc _ _
  have hvz : V.heap.size = w2.heap.size + 1 := by rw [hV]; simp
  have O0 : Hid (W.cell? ⟨w2.heap.size + 1, 0, none⟩ = some (.int .i64 p)) := Lib.hid (by rw [hW, ← hvz]; simp)
  have O1 : Hid (W.cell? ⟨w2.heap.size + 1, 1, none⟩ = some (.slice (some ⟨ge, 0, none⟩) D re)) := Lib.hid (by rw [hW, ← hvz]; simp)
  have S0 := Lib.hid ((X2.out.trans (gV.trans gW)).cell Q0.out)
  have S1 := Lib.hid ((X2.out.trans (gV.trans gW)).cell Q1.out)
  have HOE := Lib.hid (HO2.out.ext (gV.trans gW))
  have GW := Lib.hid ((G1.out.trans X2.out).trans (gV.trans gW))
  have HEG := Lib.hid (good_isB HO2.out.1 HEB.out)
  rw [← hV, ← hW]
  clear hV hW gV gW hvz HO2 X2
  go_wp2_with (fail)
  go_loopw [8, 9] (fun v i wr => ∃ (k g rc : Nat), k ≤ n1 ∧ i = .int .i64 k ∧ v = .slice (some ⟨g, 0, none⟩) k rc ∧ OwnW W.heap.size wr (some ⟨g, 0, none⟩) k rc (wtsL p (extL p qs) (pointsL p qs xs1 n1) D k) ∧ Ext W wr) (fun _ i _ => n1 - (intOf i).toNat)
  case atStart => exact ⟨0, _, _, Nat.zero_le _, rfl, rfl, OwnW.start _ _ _, Ext.refl _⟩
  case round =>
    obtain ⟨k, g, rc, hk, rfl, rfl, hown, hext⟩ := hrel
    rename World => wr
    have HOwn := Lib.hid hown
    have HExt := Lib.hid hext
    clear hown hext
    by_cases hlt : k < n1
    · obtain ⟨b, off, ak, ck, rfl, hc0, hrk⟩ := HX.out.2 k hlt
      rw [HLen.out k hlt] at hc0 hrk
      have E0 := Lib.hid (HExt.out.trans (ext_drew wr))
      have GX := Lib.hid (GW.out.trans E0.out)
      have HCk := Lib.hid (GX.out.cell hc0)
      have HRk := Lib.hid hrk
      have HGk := Lib.hid (HG.out k (by rw [HXL.out]; exact hlt))
      have T0 := Lib.hid (E0.out.cell S0.out)
      have T1 := Lib.hid (E0.out.cell S1.out)
      obtain ⟨P, hP⟩ : ∃ P, P = pointL p qs (nthR xs1 k) := ⟨_, rfl⟩
      have HGP : Hid (Good p D P) := Lib.hid (by rw [hP, HD.out]; exact pointL_good (by omega) HQL.out)
      have HWS : Hid (wtsL p (extL p qs) (pointsL p qs xs1 n1) D (k + 1) = wtsL p (extL p qs) (pointsL p qs xs1 n1) D k ++ [wtL p (extL p qs) P D]) := Lib.hid (by rw [wtsL_succ, pointsL_nth hlt, hP])
      have HPT : Hid (∀ w1, Ext w w1 → Calls Try.prog 33 #[.agg #[.int .i64 p, .slice a d cap], .slice ak d ck] w1 fun e w' => ∃ g rc, e = .returned (.slice (some ⟨g, 0, none⟩) D rc) ∧ OwnC w1.heap.size w' (some ⟨g, 0, none⟩) D rc P ∧ Ext w1 w') := Lib.hid (fun w1 he => by
        rw [hP, HD.out]
        exact s_point p a d cap qs ak ck (nthR xs1 k) w1 hd1 h4 HPR.out (HQ.out.ext he) HQB.out (HRk.out.ext he) HGk.out)
      clear hc0 hrk hP
      go_wp2_with (fail)
      refine wp_region_lex [(5, .ownS w.heap.size D P), (6, .emptyI)] (by kernel_rfl) (by kernel_rfl) ?_
      (refine LexW.pure (v := ?_) rfl rfl (fun w1 he => ?_) ?_; rotate_left; ( have e1 := he.cell T0.out; have e2 := he.cell T1.out; have e3 := he.cell HCk.out; go_simp; rfl); simp only [Act.put, List.setIfInBounds_toArray, List.set_cons_zero, List.set_cons_succ])
      (refine LexW.pure (v := ?_) rfl rfl (fun w1 he => ?_) ?_; rotate_left; ( have e1 := he.cell T0.out; have e2 := he.cell T1.out; have e3 := he.cell HCk.out; go_simp; rfl); simp only [Act.put, List.setIfInBounds_toArray, List.set_cons_zero, List.set_cons_succ])
      (refine LexW.pure (v := ?_) rfl rfl (fun w1 he => ?_) ?_; rotate_left; ( have e1 := he.cell T0.out; have e2 := he.cell T1.out; have e3 := he.cell HCk.out; go_simp; rfl); simp only [Act.put, List.setIfInBounds_toArray, List.set_cons_zero, List.set_cons_succ])
      (refine LexW.pure (v := ?_) rfl rfl (fun w1 he => ?_) ?_; rotate_left; ( have e1 := he.cell T0.out; have e2 := he.cell T1.out; have e3 := he.cell HCk.out; go_simp; rfl); simp only [Act.put, List.setIfInBounds_toArray, List.set_cons_zero, List.set_cons_succ])
      (refine LexW.pure (v := ?_) rfl rfl (fun w1 he => ?_) ?_; rotate_left; ( have e1 := he.cell T0.out; have e2 := he.cell T1.out; have e3 := he.cell HCk.out; go_simp; rfl); simp only [Act.put, List.setIfInBounds_toArray, List.set_cons_zero, List.set_cons_succ])
      (refine LexW.callR (f := ?_) (args := ?_) rfl rfl (fun w1 => ?_) (fun w1 he hdep => ?_) (fun v hv => ?_); rotate_left 2; (go_simp; refine ⟨?_, ?_⟩ <;> rfl); ( refine (HPT.out w1 (GX.out.trans he)).mono ?_; rintro e w2 ⟨g, rc, rfl, ho, g2⟩; exact ⟨_, rfl, g2, g, rc, rfl, ho.mono (Nat.le_trans GX.out.size he.size)⟩); simp only [Act.put, List.setIfInBounds_toArray, List.set_cons_zero, List.set_cons_succ])
      obtain ⟨_, g34, c34, rfl, _⟩ := hv
      (refine LexW.rel rfl rfl (fun w1 he hdep => ?_) (fun v hv => ?_); ( exact ⟨.slice (some ⟨w1.heap.size, 0, none⟩) 0 0, w1.alloc (.cells #[] 2), (by go_simp), ext_alloc _ _, _, rfl⟩); simp only [Act.put, List.setIfInBounds_toArray, List.set_cons_zero, List.set_cons_succ])
      obtain ⟨_, g35, rfl⟩ := hv
      (refine LexW.pure (v := ?_) rfl rfl (fun w1 he => ?_) ?_; rotate_left; ( go_simp; rfl); simp only [Act.put, List.setIfInBounds_toArray, List.set_cons_zero, List.set_cons_succ])
      (refine LexW.pure (v := ?_) rfl rfl (fun w1 he => ?_) ?_; rotate_left; ( go_simp; rfl); simp only [Act.put, List.setIfInBounds_toArray, List.set_cons_zero, List.set_cons_succ])
      refine LexW.nil (fun w3 he hkn => ?_)
      obtain ⟨_, _, q34, r34⟩ : (SPred.ownS w.heap.size D P).holds (.slice (some ⟨g34, 0, none⟩) D c34) w3 := hkn (5, _) (by simp)
      cases q34
      have R34 := Lib.hid r34
      have E3 := Lib.hid ((ext_drew wr).trans he)
      have F0 := Lib.hid ((HExt.out.trans E3.out).cell S0.out)
      have F1 := Lib.hid ((HExt.out.trans E3.out).cell O1.out)
      have HOE3 := Lib.hid (HOE.out.ext (HExt.out.trans E3.out))
      clear he hkn r34 HPT T0 T1 HCk
      go_wp2_with (fail)
      go_loopw [11, 12] (fun v i wz => ∃ (j g rc : Nat), j ≤ D ∧ i = .int .i64 j ∧ v = .slice (some ⟨g, 0, none⟩) j rc ∧ Hid (OwnCW w3.heap.size wz (some ⟨g, 0, none⟩) j rc (wtL p (extL p qs) P j)) ∧ Hid (Ext w3 wz)) (fun _ i _ => D - (intOf i).toNat)
      case atStart => exact ⟨0, g35, 0, Nat.zero_le _, rfl, rfl, Lib.hid (.inl ⟨rfl, rfl, rfl, _, rfl⟩), Lib.hid (Ext.refl _)⟩
      case round =>
        obtain ⟨j, gj, cj, hj, rfl, rfl, HOz, HEz⟩ := hrel
        rename World => wz
        by_cases hlj : j < D
        · have D0 := Lib.hid ((HEz.out.trans (ext_drew wz)).cell F0.out)
          have D1 := Lib.hid ((HEz.out.trans (ext_drew wz)).cell F1.out)
          have D2 := Lib.hid ((HEz.out.trans (ext_drew wz)).cell (R34.out.cell hlj))
          have D3 := Lib.hid ((HEz.out.trans (ext_drew wz)).cell (HOE3.out.cell hlj))
          have hub := HGP.out.2 j hlj
          have hvb := HEG.out.2 j hlj
          obtain ⟨u, hu⟩ : ∃ u, u = nth P j := ⟨_, rfl⟩
          obtain ⟨v, hv⟩ : ∃ v, v = nth (extL p qs) j := ⟨_, rfl⟩
          rw [← hu] at D2 hub
          rw [← hv] at D3 hvb
          obtain ⟨M, hM⟩ : ∃ M, M = u * v := ⟨_, rfl⟩
          have hmb : 0 ≤ u * v ∧ u * v ≤ 144 := ⟨Int.mul_nonneg hub.1 hvb.1, Int.le_trans (Int.mul_le_mul (show u ≤ 12 by omega) (show v ≤ 12 by omega) hvb.1 (by omega)) (by omega)⟩
          have HM : Hid (IntKind.i64.wrap (u * v) = M) := Lib.hid (by rw [hM]; exact IntWalk.i64_in _ (by omega))
          obtain ⟨Z, hZ⟩ : ∃ Z, Z = M % p := ⟨_, rfl⟩
          have HMd : Hid (∀ w1, Calls Try.prog 34 #[.int .i64 p, .int .i64 M] w1 fun e w' => e = .returned (.int .i64 Z) ∧ Ext w1 w') := Lib.hid (fun w1 => by rw [hZ]; exact s_mod p M w1 (by omega) (by omega))
          have HWT : Hid (wtL p (extL p qs) P (j + 1) = wtL p (extL p qs) P j ++ [Z]) := Lib.hid (by rw [wtL_succ, wtN, hZ, hM, hu, hv])
          clear hu hv hM hZ hmb
          go_wp2_with (fail)
          refine wp_region_lex_tail 15 [(13, .val (.int .i64 Z)), (14, .one Z)] (by kernel_rfl) (by kernel_rfl) ?_
          simp only [List.take, List.drop]
          (refine LexW.pure (v := ?_) rfl rfl (fun w1 he => ?_) ?_; rotate_left; ( have e1 := he.cell D0.out; have e2 := he.cell D1.out; have e3 := he.cell D2.out; have e4 := he.cell D3.out; have e5 := HM.out; go_simp; rfl); simp only [Act.put, List.setIfInBounds_toArray, List.set_cons_zero, List.set_cons_succ])
          (refine LexW.pure (v := ?_) rfl rfl (fun w1 he => ?_) ?_; rotate_left; ( have e1 := he.cell D0.out; have e2 := he.cell D1.out; have e3 := he.cell D2.out; have e4 := he.cell D3.out; have e5 := HM.out; go_simp; rfl); simp only [Act.put, List.setIfInBounds_toArray, List.set_cons_zero, List.set_cons_succ])
          (refine LexW.pure (v := ?_) rfl rfl (fun w1 he => ?_) ?_; rotate_left; ( have e1 := he.cell D0.out; have e2 := he.cell D1.out; have e3 := he.cell D2.out; have e4 := he.cell D3.out; have e5 := HM.out; go_simp; rfl); simp only [Act.put, List.setIfInBounds_toArray, List.set_cons_zero, List.set_cons_succ])
          (refine LexW.pure (v := ?_) rfl rfl (fun w1 he => ?_) ?_; rotate_left; ( have e1 := he.cell D0.out; have e2 := he.cell D1.out; have e3 := he.cell D2.out; have e4 := he.cell D3.out; have e5 := HM.out; go_simp; rfl); simp only [Act.put, List.setIfInBounds_toArray, List.set_cons_zero, List.set_cons_succ])
          (refine LexW.pure (v := ?_) rfl rfl (fun w1 he => ?_) ?_; rotate_left; ( have e1 := he.cell D0.out; have e2 := he.cell D1.out; have e3 := he.cell D2.out; have e4 := he.cell D3.out; have e5 := HM.out; go_simp; rfl); simp only [Act.put, List.setIfInBounds_toArray, List.set_cons_zero, List.set_cons_succ])
          (refine LexW.pure (v := ?_) rfl rfl (fun w1 he => ?_) ?_; rotate_left; ( have e1 := he.cell D0.out; have e2 := he.cell D1.out; have e3 := he.cell D2.out; have e4 := he.cell D3.out; have e5 := HM.out; go_simp; rfl); simp only [Act.put, List.setIfInBounds_toArray, List.set_cons_zero, List.set_cons_succ])
          (refine LexW.pure (v := ?_) rfl rfl (fun w1 he => ?_) ?_; rotate_left; ( have e1 := he.cell D0.out; have e2 := he.cell D1.out; have e3 := he.cell D2.out; have e4 := he.cell D3.out; have e5 := HM.out; go_simp; rfl); simp only [Act.put, List.setIfInBounds_toArray, List.set_cons_zero, List.set_cons_succ])
          (refine LexW.pure (v := ?_) rfl rfl (fun w1 he => ?_) ?_; rotate_left; ( have e1 := he.cell D0.out; have e2 := he.cell D1.out; have e3 := he.cell D2.out; have e4 := he.cell D3.out; have e5 := HM.out; go_simp; rfl); simp only [Act.put, List.setIfInBounds_toArray, List.set_cons_zero, List.set_cons_succ])
          (refine LexW.pure (v := ?_) rfl rfl (fun w1 he => ?_) ?_; rotate_left; ( have e1 := he.cell D0.out; have e2 := he.cell D1.out; have e3 := he.cell D2.out; have e4 := he.cell D3.out; have e5 := HM.out; go_simp; rfl); simp only [Act.put, List.setIfInBounds_toArray, List.set_cons_zero, List.set_cons_succ])
          (refine LexW.pure (v := ?_) rfl rfl (fun w1 he => ?_) ?_; rotate_left; ( have e1 := he.cell D0.out; have e2 := he.cell D1.out; have e3 := he.cell D2.out; have e4 := he.cell D3.out; have e5 := HM.out; go_simp; rfl); simp only [Act.put, List.setIfInBounds_toArray, List.set_cons_zero, List.set_cons_succ])
          (refine LexW.pure (v := ?_) rfl rfl (fun w1 he => ?_) ?_; rotate_left; ( have e1 := he.cell D0.out; have e2 := he.cell D1.out; have e3 := he.cell D2.out; have e4 := he.cell D3.out; have e5 := HM.out; go_simp; rfl); simp only [Act.put, List.setIfInBounds_toArray, List.set_cons_zero, List.set_cons_succ])
          (refine LexW.pure (v := ?_) rfl rfl (fun w1 he => ?_) ?_; rotate_left; ( have e1 := he.cell D0.out; have e2 := he.cell D1.out; have e3 := he.cell D2.out; have e4 := he.cell D3.out; have e5 := HM.out; go_simp; rfl); simp only [Act.put, List.setIfInBounds_toArray, List.set_cons_zero, List.set_cons_succ])
          (refine LexW.pure (v := ?_) rfl rfl (fun w1 he => ?_) ?_; rotate_left; ( have e1 := he.cell D0.out; have e2 := he.cell D1.out; have e3 := he.cell D2.out; have e4 := he.cell D3.out; have e5 := HM.out; go_simp; rfl); simp only [Act.put, List.setIfInBounds_toArray, List.set_cons_zero, List.set_cons_succ])
          (refine LexW.call (f := ?_) (args := ?_) rfl rfl (fun w1 => ?_) (fun w1 he hdep => ?_) ?_; rotate_left 2; (go_simp; refine ⟨?_, ?_⟩ <;> rfl); ( exact HMd.out w1); simp only [Act.put, List.setIfInBounds_toArray, List.set_cons_zero, List.set_cons_succ])
          (refine LexW.rel rfl rfl (fun w1 he hdep => ?_) (fun v hv => ?_); ( exact ⟨.slice (some ⟨w1.heap.size, 0, none⟩) 1 1, w1.alloc (.cells #[.int .i64 Z] 2), (by go_simp), ext_alloc _ _, _, rfl, (by simp)⟩); simp only [Act.put, List.setIfInBounds_toArray, List.set_cons_zero, List.set_cons_succ])
          obtain ⟨_, g9, rfl, _⟩ := hv
          refine LexW.nil (fun w4 he hkn => ?_)
          obtain ⟨_, q9, r9⟩ : (SPred.one Z).holds (.slice (some ⟨g9, 0, none⟩) 1 1) w4 := hkn (14, _) (by simp)
          cases q9
          have G2 := Lib.hid ((ext_drew _).trans he)
          have R9 := Lib.hid r9
          clear he hkn r9
          go_wp2_with (at_builtin; refine wpList_pushCW rfl (.tmp 42) (.tmp 56) rfl rfl rfl (v := Z) (HOz.out.ext G2.out) ?hc (by omega) ?hB ?hk)
          case hc => exact R9.out
          case hB => exact (HEz.out.trans G2.out).size'
          case hk =>
            intro g' cap' w5 ho5 he5
            have HO5 := Lib.hid ho5
            have HE5 := Lib.hid (he5 w3 (Nat.le_refl _) (HEz.out.trans G2.out))
            clear ho5 he5
            go_wp2_with (fail)
            go_roundw
            case rel => exact ⟨j + 1, g', cap', by omega, by go_num, rfl, Lib.hid (by rw [HWT.out]; exact .inr HO5.out), HE5⟩
            case measure => simp [intOf]; omega
        · obtain rfl : j = D := by omega
          have HRW : Hid (OwnC wr.heap.size wz (some ⟨gj, 0, none⟩) j cj (wtL p (extL p qs) P j)) := Lib.hid (by
            rcases HOz.out with ⟨h, _⟩ | h
            · omega
            · exact h.mono E3.out.size)
          go_wp2_with (at_builtin; refine wpList_pushRW (w0 := wr) rfl (.tmp 58) (.tmp 60) rfl rfl rfl HOwn.out ((E3.out.trans HEz.out).trans (ext_alloc _ _)) (HRW.out.ext (ext_alloc _ _)) ?hc (by omega) HExt.out.size ?hk)
          case hc => exact cell_new _ _ rfl _ _
          case hk =>
            intro g' cap' w5 ho5 he5
            have HO5 := Lib.hid ho5
            have HE5 := Lib.hid (he5 W (Nat.le_refl _) ((HExt.out.trans (E3.out.trans HEz.out)).alloc _))
            clear ho5 he5
            go_wp2_with (fail)
            go_roundw
            case rel => exact ⟨k + 1, g', cap', by omega, by go_num, rfl, by rw [HWS.out]; exact .inr HO5.out, HE5.out⟩
            case measure => simp [intOf]; omega
    · obtain rfl : k = n1 := by omega
      have hs0 := HExt.out.cell S0.out
      have hs1 := HExt.out.cell O1.out
      go_wp2_with (fail)
      refine Calls.mono (s_kernel12 p D _ k rc (wtsL p (extL p qs) (pointsL p qs xs1 k) D k) _ HPR.out hD1 (by omega) (by omega) HOwn.out.rd (wtsL_good (by omega))) ?_
      rintro e w5 ⟨r5, c5, rfl, ho5, x5⟩
      rw [← HKD.out] at ho5 ⊢
      have HO5 := Lib.hid (ho5.mono (GW.out.trans HExt.out).size)
      have HE5 := Lib.hid ((GW.out.trans HExt.out).trans x5)
      clear ho5 x5 hs0 hs1
      by_cases h1 : (sphK p qs xs1).length = 1
      · have HZ := Lib.hid (sp_ok HC.out h1)
        have HSG := Lib.hid (sphL_good HPR.out h1)
        rw [h1] at HO5 ⊢
        obtain ⟨b5, o5, ai, ci, hax, hci, hoi⟩ := HO5.out.2 0 (by omega)
        cases hax
        rw [Nat.zero_add] at hci
        rw [show nthR (sphK p qs xs1) 0 = sphL p qs xs1 from rfl, HSG.out.1, HQL.out] at hci hoi
        have HOI := Lib.hid hoi
        clear h1 hoi
        go_wp2_with (fail)
        go_ret2
        exact .inr ⟨HZ.out, _, _, rfl, HOI.out, HE5.out⟩
      · have HZ := Lib.hid (sp_many HC.out h1)
        have h1i : ¬ (((sphK p qs xs1).length : Nat) : Int) = 1 := by omega
        have h1b : ((((sphK p qs xs1).length : Nat) : Int) != 1) = true := by simpa using h1i
        clear h1
        go_wp2_with (fail)
        go_ret2
        exact .inl ⟨by rw [HZ.out]; decide, ret_pairS HZ.out.symm, HE5.out⟩
theorem c_SphereThrough_bad (p : Int) (a : Option Addr) (d cap : Nat) (qs : List Int) (ax1 : Option Addr) (n1 cx1 : Nat) (xs1 : List (List Int)) (w : World) (hd : d ≤ 4194304) (hn1 : n1 ≤ 4194304) (hr1 : ∀ i, i < n1 → (nthR xs1 i).length ≤ 4194304) (hq : RdC w a d qs) (hx1 : RdR w ax1 n1 xs1) (hc : codeSp p qs xs1 ≠ 0) :
    Calls Try.prog 13 #[.agg #[.int .i64 p, .slice a d cap], .slice ax1 n1 cx1] w fun e w' => ∃ ra rc, e = .returned (.tuple #[.slice ra 0 rc, .int .i64 (codeSp p qs xs1)]) ∧ OwnC w.heap.size w' ra 0 rc [] ∧ Ext w w' := by
  refine (c_SphereThrough_all p a d cap qs ax1 n1 cx1 xs1 w hd hn1 hr1 hq hx1).mono ?_
  rintro e w' (⟨_, h2, h3⟩ | ⟨h1, _⟩)
  · exact ⟨_, _, h2, own_nil _ _, h3⟩
  · exact absurd h1 hc
theorem c_SphereThrough_ok (p : Int) (a : Option Addr) (d cap : Nat) (qs : List Int) (ax1 : Option Addr) (n1 cx1 : Nat) (xs1 : List (List Int)) (w : World) (hd : d ≤ 4194304) (hn1 : n1 ≤ 4194304) (hr1 : ∀ i, i < n1 → (nthR xs1 i).length ≤ 4194304) (hq : RdC w a d qs) (hx1 : RdR w ax1 n1 xs1) (hc : codeSp p qs xs1 = 0) :
    Calls Try.prog 13 #[.agg #[.int .i64 p, .slice a d cap], .slice ax1 n1 cx1] w fun e w' => ∃ ra rc, e = .returned (.tuple #[.slice ra (d + 2) rc, .int .i64 0]) ∧ OwnC w.heap.size w' ra (d + 2) rc (sphL p qs xs1) ∧ Ext w w' := by
  refine (c_SphereThrough_all p a d cap qs ax1 n1 cx1 xs1 w hd hn1 hr1 hq hx1).mono ?_
  rintro e w' (⟨h1, _⟩ | ⟨_, h2⟩)
  · exact absurd hc h1
  · exact h2
theorem s_SphereThrough_bad (p : Int) (a : Option Addr) (d cap : Nat) (qs : List Int) (ax1 : Option Addr) (n1 cx1 : Nat) (xs1 : List (List Int)) (w : World) (hd : d ≤ 4194304) (hn1 : n1 ≤ 4194304) (hr1 : ∀ i, i < n1 → (nthR xs1 i).length ≤ 4194304) (hq : RdC w a d qs) (hx1 : RdR w ax1 n1 xs1) (hc : codeSp p qs xs1 ≠ 0) :
    Calls Try.prog 10 #[.agg #[.int .i64 p, .slice a d cap], .slice ax1 n1 cx1] w fun e w' => ∃ ra rc, e = .returned (.tuple #[.slice ra 0 rc, .int .i64 (codeSp p qs xs1)]) ∧ OwnC w.heap.size w' ra 0 rc [] ∧ Ext w w' := by
  refine (s_SphereThrough_all p a d cap qs ax1 n1 cx1 xs1 w hd hn1 hr1 hq hx1).mono ?_
  rintro e w' (⟨_, h2, h3⟩ | ⟨h1, _⟩)
  · exact ⟨_, _, h2, own_nil _ _, h3⟩
  · exact absurd h1 hc
theorem s_SphereThrough_ok (p : Int) (a : Option Addr) (d cap : Nat) (qs : List Int) (ax1 : Option Addr) (n1 cx1 : Nat) (xs1 : List (List Int)) (w : World) (hd : d ≤ 4194304) (hn1 : n1 ≤ 4194304) (hr1 : ∀ i, i < n1 → (nthR xs1 i).length ≤ 4194304) (hq : RdC w a d qs) (hx1 : RdR w ax1 n1 xs1) (hc : codeSp p qs xs1 = 0) :
    Calls Try.prog 10 #[.agg #[.int .i64 p, .slice a d cap], .slice ax1 n1 cx1] w fun e w' => ∃ ra rc, e = .returned (.tuple #[.slice ra (d + 2) rc, .int .i64 0]) ∧ OwnC w.heap.size w' ra (d + 2) rc (sphL p qs xs1) ∧ Ext w w' := by
  refine (s_SphereThrough_all p a d cap qs ax1 n1 cx1 xs1 w hd hn1 hr1 hq hx1).mono ?_
  rintro e w' (⟨h1, _⟩ | ⟨_, h2⟩)
  · exact absurd hc h1
  · exact h2
end Go.Proofs.Ytnabpmafcflljaa

/-
  What is known of the arguments of a law in memory, read off the form's own words.
  No condition.
-/
namespace Go.Proofs.Ytnabpmafcflljaa
set_option maxRecDepth 100000
open Go.ChangeShapes Go.WideShapes Go.ChangeAt Go.RowKit Go.Joins

theorem own : ownKnob Try.prog.godebug = none := by kernel_rfl
theorem laidOut : laidOutB Try.prog = true := by kernel_rfl
theorem Try.cellsI : Try.prog.cellsOf 2 = 1 := by kernel_rfl
theorem Try.cellsR : Try.prog.cellsOf 22 = 1 := by kernel_rfl
theorem Try.cellsS : Try.prog.cellsOf 24 = 2 := by kernel_rfl

theorem add_cell {w : World} {x : Addr} {i : Nat} {v v0 : Value} (h0 : w.cell? (x.add 0) = some v0) (h : w.cell? (x.add i) = some v) : ∃ b off, some x = some (⟨b, off, none⟩ : Addr) ∧ w.cell? ⟨b, off + i, none⟩ = some v := by
  obtain ⟨b, off, spot⟩ := x
  cases spot with
  | none =>
    refine ⟨b, off, rfl, ?_⟩
    unfold Addr.add at h
    split at h
    · rename_i hi; subst hi; exact h
    · exact h
  | some s =>
    simp only [World.cell?, Addr.add, if_true] at h0
    split at h0
    · simp at h0
    · cases h0

theorem read_cells {H : Type} {enc : TypeId × Value → H} {W : World} {fuel : Nat} {v : Value} {x : DataW H × List MemPlace}
    (hf : DataW.trod enc Try.prog W 0 (fun _ => true) true fuel 22 [v] = some x) : ∃ a n cap xs, v = .slice a n cap ∧ RdC W a n xs ∧ n ≤ maxLen := by
  rcases open_ints Try.underlying22 Try.underlying2 Try.cellsI hf with ⟨hcs, _⟩ | ⟨y, l, c, zs, hcs, _, hl, hm, hz, _, hcell, hwz⟩
  · simp only [List.cons.injEq, and_true] at hcs
    exact ⟨none, 0, 0, [], hcs, ⟨rfl, fun i hi => by omega⟩, by omega⟩
  · simp only [List.cons.injEq, and_true] at hcs
    have hz' : zs.length = c := by simpa using hz
    refine ⟨some y, l, c, zs.take l, hcs, ⟨by simp; omega, fun i hi => ?_⟩, by omega⟩
    obtain ⟨b, off, h1, h2⟩ := add_cell (hcell 0 (by omega)) (hcell i (by omega))
    refine ⟨b, off, h1, ?_⟩
    rw [h2]
    simp [nth, List.getElem?_take_of_lt hi]

theorem read_ints {H : Type} {enc : TypeId × Value → H} {W : World} {base : Nat} {v : Value} {d : DataW H} {p : List MemPlace}
    (hv : Value.okWide Try.prog W .any base 22 v) (h : DataW.Trod enc Try.prog W 0 (fun _ => true) true 22 v d p) : ∃ a n cap xs, v = .slice a n cap ∧ RdC W a n xs ∧ n ≤ maxLen := by
  obtain ⟨a0, len0, cap0, rfl⟩ := okWide_slice Try.underlying22 hv
  obtain ⟨fuel, hf⟩ := h
  exact read_cells (by simpa [Value.cells] using hf)

theorem read_space {H : Type} {enc : TypeId × Value → H} {W : World} {base : Nat} {v : Value} {d : DataW H} {p : List MemPlace}
    (hv : Value.okWide Try.prog W .any base 24 v) (h : DataW.Trod enc Try.prog W 0 (fun _ => true) true 24 v d p) : ∃ q a n cap xs, v = .agg #[.int .i64 q, .slice a n cap] ∧ RdC W a n xs ∧ n ≤ maxLen ∧ (Lit.int .i64 q).wf = true := by
  obtain ⟨c0, c1, y0, y1, m, rfl, rfl, rfl, hy0, hy1⟩ := open_agg2 Try.underlying24 (by kernel_rfl) Try.cellsS hv h
  obtain ⟨q, e0, _, wq⟩ := DataW.trod_int Try.underlying2 hy0
  simp only [List.cons.injEq, and_true] at e0
  obtain ⟨a, n, cap, xs, e1, hr, hm⟩ := read_cells hy1
  exact ⟨q, a, n, cap, xs, by rw [e0, e1], hr, hm, wq⟩

end Go.Proofs.Ytnabpmafcflljaa

/-
  What is known of a slice of slices that a law is handed.
  No condition.
-/
namespace Go.Proofs.Ytnabpmafcflljaa
set_option maxRecDepth 100000
open Go.ChangeShapes Go.WideShapes Go.ChangeAt Go.RowKit Go.Joins

theorem read_rows {H : Type} {enc : TypeId × Value → H} {W : World} {base : Nat} {v : Value} {d : DataW H} {p : List MemPlace}
    (hv : Value.okWide Try.prog W .any base 25 v) (h : DataW.Trod enc Try.prog W 0 (fun _ => true) true 25 v d p) : ∃ a n cap rows, v = .slice a n cap ∧ RdR W a n rows ∧ n ≤ maxLen ∧ ∀ i, i < n → (nthR rows i).length ≤ maxLen := by
  obtain ⟨a0, len0, cap0, rfl⟩ := okWide_slice Try.underlying25 hv
  obtain ⟨fuel, hf⟩ := h
  rcases Go.Deep.open_int_rows Try.underlying25 Try.underlying22 Try.underlying2 Try.cellsR Try.cellsI (by simpa [Value.cells] using hf) with ⟨hcs, _⟩ | ⟨y, l, c, A, L, C, Z, hcs, _, hl, hm, _, hr⟩
  · simp only [List.cons.injEq, and_true] at hcs
    exact ⟨none, 0, 0, [], hcs, ⟨rfl, fun i hi => by omega⟩, by omega, fun i hi => by omega⟩
  · simp only [List.cons.injEq, and_true] at hcs
    have e : ∀ i, i < l → nthR ((List.range l).map fun r => (Z r).take (L r)) i = (Z i).take (L i) := fun i hi => by simp [nthR, hi]
    refine ⟨some y, l, c, (List.range l).map fun r => (Z r).take (L r), hcs, ⟨by simp, fun i hi => ?_⟩, by omega, fun i hi => ?_⟩
    · obtain ⟨h1, h2, h3, h4, _, h5, h6⟩ := hr i (by omega)
      obtain ⟨b, off, ha, hc⟩ := add_cell (hr 0 (by omega)).1 h1
      refine ⟨b, off, A i, C i, ha, ?_, ?_⟩
      · rw [hc, e i hi]; simp [h4, h2]
      · rw [e i hi]
        have hlen : ((Z i).take (L i)).length = L i := by simp [h4, h2]
        refine ⟨rfl, fun j hj => ?_⟩
        rw [hlen] at hj
        cases hA : A i with
        | none => have := h5 hA; omega
        | some a' =>
          have h7 := (h6 a' hA).2
          obtain ⟨b1, off1, ha1, hc1⟩ := add_cell (h7 0 (by omega)) (h7 j (by omega))
          refine ⟨b1, off1, ha1, ?_⟩
          rw [hc1]
          simp [nth, List.getElem?_take_of_lt hj]
    · obtain ⟨h1, h2, h3, h4, _⟩ := hr i (by omega)
      rw [e i hi]
      simp; omega
end Go.Proofs.Ytnabpmafcflljaa
