/-
  The extension of a space, infinity: contracts.
  No condition.
-/
import Derived.Test.YtlchmkaaogokiaaFloat2
import Derived.Test.YtlchmkaaogokiaaPush
import Derived.Test.YtlchmkaaogokiaaOwn
import Derived.Test.YtlchmkaaogokiaaKit
namespace Go.Proofs.Ytlchmkaaogokiaa
set_option maxRecDepth 100000
open Go.RowKit

/-- The squares of the extension. -/
def extL (p : Int) (qs : List Int) : List Int := qs ++ [1, p - 1]
theorem extL_len (p : Int) (qs : List Int) : (extL p qs).length = qs.length + 2 := by simp [extL]
theorem extL_isB {p : Int} {qs : List Int} (hp : 3 ≤ p) (h : isB p qs = true) : isB p (extL p qs) = true := by
  unfold isB at h ⊢
  unfold extL
  rw [List.all_append, h]
  simp [inB]; omega
/-- Infinity. -/
def infL (d : Nat) : List Int := List.replicate d 0 ++ [1, 1]

theorem wpListI_appendAll {ops : Array Oper} {rest : List Oper} {o : Oper} {a : Act} {Q : Exit → Act → World → Prop} {I : World → Prop} {w : World} (hI : I w) (hwd : Region.wanted o (yielded ops a.tmps) = true) (s x : Operand)
    (ho : o.op = .call { callee := .builtin .append, args := #[s, x], argTypes := #[22, 22] })
    {B : Nat} {ra : Option Addr} {n cap : Nat} {xs : List Int} {b off m c : Nat} {ys : List Int} (hs : a.eval s = .slice ra n cap) (hx : a.eval x = .slice (some ⟨b, off, none⟩) m c)
    (hown : OwnC B w ra n cap xs) (hy : RdC w (some ⟨b, off, none⟩) m ys) (hm : 0 < m) (hn : n ≤ 4194304) (hml : m ≤ 4194304) (hB : B ≤ w.heap.size)
    (h : ∀ g' cap' w', OwnC B w' (some ⟨g', 0, none⟩) (n + m) cap' (xs ++ ys) → (∀ W : World, W.heap.size ≤ B → Ext W w → Ext W w') →
      wpListI Try.prog ops Q I rest (a.put o.dst (.slice (some ⟨g', 0, none⟩) (n + m) cap')) w') : wpListI Try.prog ops Q I (o :: rest) a w := by
  obtain ⟨g', cap', w', hr, h1, h2, h3⟩ := run_appendAll hown hy hm hn hml hB o.type (c := c)
  refine wpListI.value (v := .slice (some ⟨g', 0, none⟩) (n + m) cap') hI hwd ?_ (h g' cap' w' h1 h3)
  unfold execOp
  simp only [ho, resolve, invoke, builtin, Sem.run_bind, Sem.run_pure, Result.andThen_ok, List.map_toArray, List.map_cons, List.map_nil, hs, hx, hr]

/-- A row of two numbers. -/
def SPred.two (x y : Int) : SPred := ⟨fun v w => ∃ g, v = .slice (some ⟨g, 0, none⟩) 2 2 ∧ w.cell? ⟨g, 0, none⟩ = some (.int .i64 x) ∧ w.cell? ⟨g, 1, none⟩ = some (.int .i64 y), fun _ _ _ ⟨g, hv, h, h'⟩ he => ⟨g, hv, he.cell h, he.cell h'⟩⟩
theorem rdC_two {w : World} {g : Nat} {x y : Int} (h : w.cell? ⟨g, 0, none⟩ = some (.int .i64 x)) (h' : w.cell? ⟨g, 1, none⟩ = some (.int .i64 y)) : RdC w (some ⟨g, 0, none⟩) 2 [x, y] := by
  refine ⟨rfl, fun i hi => ?_⟩
  have : i = 0 ∨ i = 1 := by omega
  rcases this with rfl | rfl
  · exact ⟨g, 0, rfl, h⟩
  · exact ⟨g, 0, rfl, h'⟩
set_option maxHeartbeats 4000000 in
set_option maxRecDepth 100000 in
theorem c_extended (p : Int) (a : Option Addr) (d cap : Nat) (qs : List Int) (w : World) (hd1 : 0 < d) (hd : d ≤ 4194303) (hp1 : 3 ≤ p) (hp2 : p ≤ 1000) (hq : RdC w a d qs) :
    Calls Try.prog 85 #[.agg #[.int .i64 p, .slice a d cap]] w fun e w' => ∃ g rc, e = .returned (.agg #[.int .i64 p, .slice (some ⟨g, 0, none⟩) (d + 2) rc]) ∧ OwnC w.heap.size w' (some ⟨g, 0, none⟩) (d + 2) rc (extL p qs) ∧ Ext w w' := by
  obtain ⟨b, off, rfl, _⟩ := hq.2 0 hd1
  have hw1 : IntKind.i64.wrap (p - 1) = p - 1 := IntWalk.i64_in _ (by omega)
  have HQ := Lib.hid hq
  clear hq
  obtain ⟨W1, hW1⟩ : ∃ W, W = w.alloc (.cells #[.int .i64 p, .slice (some ⟨b, off, none⟩) d cap] 28) := ⟨_, rfl⟩
  obtain ⟨W, hW⟩ : ∃ W, W = W1.alloc (.cells #[.int .i64 0, .slice none 0 0] 28) := ⟨_, rfl⟩
  have gW1 : Ext w W1 := by rw [hW1]; exact ext_alloc _ _
  have gW : Ext W1 W := by rw [hW]; exact ext_alloc _ _
  have hz : W1.heap.size = w.heap.size + 1 := by rw [hW1]; simp
  have hs0 : W1.cell? ⟨w.heap.size, 0, none⟩ = some (.int .i64 p) := by rw [hW1]; simp
  have hs1 : W1.cell? ⟨w.heap.size, 1, none⟩ = some (.slice (some ⟨b, off, none⟩) d cap) := by rw [hW1]; simp
  have hr0 : W.cell? ⟨w.heap.size + 1, 0, none⟩ = some (.int .i64 0) := by rw [hW, ← hz]; simp
  have hr1 : W.cell? ⟨w.heap.size + 1, 1, none⟩ = some (.slice none 0 0) := by rw [hW, ← hz]; simp
  have hf0 : ∀ j, W.frozen? ⟨w.heap.size + 1, j, none⟩ = false := fun j => by rw [hW, ← hz]; simp
  have hlt : w.heap.size + 1 < W.heap.size := by rw [hW, ← hz]; simp
  have HS0 := Lib.hid ((gW.trans (ext_drew _)).cell hs0)
  have HS1 := Lib.hid ((gW.trans (ext_drew _)).cell hs1)
  have HI1 := Lib.hid hs0
  have HR0 := Lib.hid ((ext_drew _).cell hr0)
  have HR1 := Lib.hid ((ext_drew _).cell hr1)
  have HF0 := Lib.hid (show ∀ j, W.drew.frozen? ⟨w.heap.size + 1, j, none⟩ = false from fun j => by rw [(ext_drew W).frz _ _ hlt]; exact hf0 j)
  have GW1 := Lib.hid gW1
  have G1 := Lib.hid (gW.trans (ext_drew W))
  have GW := Lib.hid (gW1.trans (gW.trans (ext_drew W)))
  have HZ := Lib.hid hz
  have HW := Lib.hid hW
  have HW1 := Lib.hid hW1
  have HLt := Lib.hid (show w.heap.size + 1 < W.drew.heap.size from Nat.lt_of_lt_of_le hlt (ext_drew W).size)
  clear hs0 hs1 hr0 hr1 hf0 gW gW1 hz hW hW1 hlt
  go_enter Try.func85, Try.ntmps85
  go_wp2_with (fail)
  rw [← HW1.out, ← HW.out]
  refine wp_region_lex_tail2 9 [(4, .ownS W.drew.heap.size d qs), (8, .two 1 (p - 1))] (.pointer (some ⟨w.heap.size, 0, none⟩)) (.int .i64 p) (fun w' => w'.cell? ⟨w.heap.size, 0, none⟩ = some (.int .i64 p)) (by kernel_rfl) (by kernel_rfl) rfl rfl (fun w' he => he.cell HS0.out) ⟨rfl, fun w' _ => by go_simp⟩ ⟨rfl, fun w' hI => by go_simp⟩ ?_
  simp only [List.take, List.drop]
  simp only [Act.put, List.setIfInBounds_toArray, List.set_cons_zero, List.set_cons_succ]
  (refine LexW.pure (v := ?_) rfl rfl (fun w1 he => ?_) ?_; rotate_left; ( have e1 := he.cell HS0.out; have e2 := he.cell HS1.out; go_simp; rfl); simp only [Act.put, List.setIfInBounds_toArray, List.set_cons_zero, List.set_cons_succ])
  (refine LexW.pure (v := ?_) rfl rfl (fun w1 he => ?_) ?_; rotate_left; ( have e1 := he.cell HS0.out; have e2 := he.cell HS1.out; go_simp; rfl); simp only [Act.put, List.setIfInBounds_toArray, List.set_cons_zero, List.set_cons_succ])
  (refine LexW.callR (f := ?_) (args := ?_) rfl rfl (fun w1 => ?_) (fun w1 he hdep => ?_) (fun v hv => ?_); rotate_left 2; (go_simp; refine ⟨?_, ?_⟩ <;> rfl); ( refine (c_clone b off d cap qs w1 hd1 (by omega) (HQ.out.ext (GW.out.trans he))).mono ?_; rintro e w2 ⟨g2, rc2, rfl, ho, x2⟩; exact ⟨_, rfl, x2, g2, rc2, rfl, ho.mono he.size⟩); simp only [Act.put, List.setIfInBounds_toArray, List.set_cons_zero, List.set_cons_succ])
  obtain ⟨_, g7, c7, rfl, _⟩ := hv
  (refine LexW.pure (v := ?_) rfl rfl (fun w1 he => ?_) ?_; rotate_left; ( have e1 := he.cell HS0.out; have e2 := he.cell HS1.out; go_simp; rfl); simp only [Act.put, List.setIfInBounds_toArray, List.set_cons_zero, List.set_cons_succ])
  (refine LexW.pure (v := ?_) rfl rfl (fun w1 he => ?_) ?_; rotate_left; ( have e1 := he.cell HS0.out; have e2 := he.cell HS1.out; go_simp; rfl); simp only [Act.put, List.setIfInBounds_toArray, List.set_cons_zero, List.set_cons_succ])
  (refine LexW.pure (v := ?_) rfl rfl (fun w1 he => ?_) ?_; rotate_left; ( have e1 := he.cell HS0.out; have e2 := he.cell HS1.out; go_simp; rfl); simp only [Act.put, List.setIfInBounds_toArray, List.set_cons_zero, List.set_cons_succ])
  (refine LexW.rel rfl rfl (fun w1 he hdep => ?_) (fun v hv => ?_); ( exact ⟨.slice (some ⟨w1.heap.size, 0, none⟩) 2 2, w1.alloc (.cells #[.int .i64 1, .int .i64 (p - 1)] 2), (by go_simp), ext_alloc _ _, _, rfl, (by simp), (by simp)⟩); simp only [Act.put, List.setIfInBounds_toArray, List.set_cons_zero, List.set_cons_succ])
  obtain ⟨_, g11, rfl, _⟩ := hv
  refine LexW.nil (fun w3 he hkn => ?_)
  obtain ⟨_, _, q7, r7⟩ : (SPred.ownS W.drew.heap.size d qs).holds (.slice (some ⟨g7, 0, none⟩) d c7) w3 := hkn (4, _) (by simp)
  cases q7
  obtain ⟨_, q11, r11, r11'⟩ : (SPred.two 1 (p - 1)).holds (.slice (some ⟨g11, 0, none⟩) 2 2) w3 := hkn (8, _) (by simp)
  cases q11
  have R7 := Lib.hid r7
  have R11 := Lib.hid (rdC_two r11 r11')
  have X3 := Lib.hid he
  clear he hkn r7 r11 r11'
  refine wpListI_appendAll (X3.out.cell HS0.out) rfl (.tmp 7) (.tmp 11) rfl rfl rfl R7.out R11.out (by omega) (by omega) (by omega) X3.out.size ?_
  intro g4 c4 w4 ho4 he4
  have HO4 := Lib.hid ho4
  have X4 := Lib.hid (he4 W.drew (Nat.le_refl _) X3.out)
  clear ho4 he4
  simp only [Act.put, List.setIfInBounds_toArray, List.set_cons_zero, List.set_cons_succ]
  refine wpListI.value (v := ?_) (w' := w4) (X4.out.cell HS0.out) rfl ?_ ?_
  rotate_left
  · go_simp; rfl
  simp only [Act.put, List.setIfInBounds_toArray, List.set_cons_zero, List.set_cons_succ]
  have hc0 := X4.out.cell HR0.out
  have hc1 := X4.out.cell HR1.out
  have hz0 : w4.frozen? ⟨w.heap.size + 1, 0, none⟩ = false := by rw [X4.out.frz _ _ HLt.out]; exact HF0.out 0
  have hz1 : w4.frozen? ⟨w.heap.size + 1, 1, none⟩ = false := by rw [X4.out.frz _ _ HLt.out]; exact HF0.out 1
  refine wpListI.skip (w' := (w4.setCell ⟨w.heap.size + 1, 0, none⟩ (.int .i64 p)).setCell ⟨w.heap.size + 1, 1, none⟩ (.slice (some ⟨g4, 0, none⟩) (d + 2) c4)) (X4.out.cell HS0.out) rfl ?_ ?_
  · go_simp
  have XE := Lib.hid ((((G1.out.trans X4.out).setCell (p := ⟨w.heap.size + 1, 0, none⟩) (by show W1.heap.size ≤ w.heap.size + 1; rw [HZ.out]; exact Nat.le_refl _) (.int .i64 p))).setCell (p := ⟨w.heap.size + 1, 1, none⟩) (by show W1.heap.size ≤ w.heap.size + 1; rw [HZ.out]; exact Nat.le_refl _) (.slice (some ⟨g4, 0, none⟩) (d + 2) c4))
  refine ⟨XE.out.cell HI1.out, strictQ_normal ?_⟩
  simp only [Act.put]
  go_wp2_with (fail)
  refine bodyPost_ret (v := .agg #[.int .i64 p, .slice (some ⟨g4, 0, none⟩) (d + 2) c4]) (by simp [results, Try.results85, go_sem, hc0, hc1]) rfl ⟨g4, c4, rfl, ?_, GW1.out.trans XE.out⟩
  exact ((HO4.out.other HLt.out _).other HLt.out _).mono GW.out.size

set_option maxHeartbeats 4000000 in
set_option maxRecDepth 100000 in
theorem s_extended (p : Int) (a : Option Addr) (d cap : Nat) (qs : List Int) (w : World) (hd1 : 0 < d) (hd : d ≤ 4194303) (hp1 : 3 ≤ p) (hp2 : p ≤ 1000) (hq : RdC w a d qs) :
    Calls Try.prog 76 #[.agg #[.int .i64 p, .slice a d cap]] w fun e w' => ∃ g rc, e = .returned (.agg #[.int .i64 p, .slice (some ⟨g, 0, none⟩) (d + 2) rc]) ∧ OwnC w.heap.size w' (some ⟨g, 0, none⟩) (d + 2) rc (extL p qs) ∧ Ext w w' := by
  obtain ⟨b, off, rfl, _⟩ := hq.2 0 hd1
  have hw1 : IntKind.i64.wrap (p - 1) = p - 1 := IntWalk.i64_in _ (by omega)
  have HQ := Lib.hid hq
  clear hq
  obtain ⟨W1, hW1⟩ : ∃ W, W = w.alloc (.cells #[.int .i64 p, .slice (some ⟨b, off, none⟩) d cap] 28) := ⟨_, rfl⟩
  obtain ⟨W, hW⟩ : ∃ W, W = W1.alloc (.cells #[.int .i64 0, .slice none 0 0] 28) := ⟨_, rfl⟩
  have gW1 : Ext w W1 := by rw [hW1]; exact ext_alloc _ _
  have gW : Ext W1 W := by rw [hW]; exact ext_alloc _ _
  have hz : W1.heap.size = w.heap.size + 1 := by rw [hW1]; simp
  have hs0 : W1.cell? ⟨w.heap.size, 0, none⟩ = some (.int .i64 p) := by rw [hW1]; simp
  have hs1 : W1.cell? ⟨w.heap.size, 1, none⟩ = some (.slice (some ⟨b, off, none⟩) d cap) := by rw [hW1]; simp
  have hr0 : W.cell? ⟨w.heap.size + 1, 0, none⟩ = some (.int .i64 0) := by rw [hW, ← hz]; simp
  have hr1 : W.cell? ⟨w.heap.size + 1, 1, none⟩ = some (.slice none 0 0) := by rw [hW, ← hz]; simp
  have hf0 : ∀ j, W.frozen? ⟨w.heap.size + 1, j, none⟩ = false := fun j => by rw [hW, ← hz]; simp
  have hlt : w.heap.size + 1 < W.heap.size := by rw [hW, ← hz]; simp
  have HS0 := Lib.hid ((gW.trans (ext_drew _)).cell hs0)
  have HS1 := Lib.hid ((gW.trans (ext_drew _)).cell hs1)
  have HI1 := Lib.hid hs0
  have HR0 := Lib.hid ((ext_drew _).cell hr0)
  have HR1 := Lib.hid ((ext_drew _).cell hr1)
  have HF0 := Lib.hid (show ∀ j, W.drew.frozen? ⟨w.heap.size + 1, j, none⟩ = false from fun j => by rw [(ext_drew W).frz _ _ hlt]; exact hf0 j)
  have GW1 := Lib.hid gW1
  have G1 := Lib.hid (gW.trans (ext_drew W))
  have GW := Lib.hid (gW1.trans (gW.trans (ext_drew W)))
  have HZ := Lib.hid hz
  have HW := Lib.hid hW
  have HW1 := Lib.hid hW1
  have HLt := Lib.hid (show w.heap.size + 1 < W.drew.heap.size from Nat.lt_of_lt_of_le hlt (ext_drew W).size)
  clear hs0 hs1 hr0 hr1 hf0 gW gW1 hz hW hW1 hlt
  go_enter Try.func76, Try.ntmps76
  go_wp2_with (fail)
  rw [← HW1.out, ← HW.out]
  refine wp_region_lex_tail2 9 [(4, .ownS W.drew.heap.size d qs), (8, .two 1 (p - 1))] (.pointer (some ⟨w.heap.size, 0, none⟩)) (.int .i64 p) (fun w' => w'.cell? ⟨w.heap.size, 0, none⟩ = some (.int .i64 p)) (by kernel_rfl) (by kernel_rfl) rfl rfl (fun w' he => he.cell HS0.out) ⟨rfl, fun w' _ => by go_simp⟩ ⟨rfl, fun w' hI => by go_simp⟩ ?_
  simp only [List.take, List.drop]
  simp only [Act.put, List.setIfInBounds_toArray, List.set_cons_zero, List.set_cons_succ]
  (refine LexW.pure (v := ?_) rfl rfl (fun w1 he => ?_) ?_; rotate_left; ( have e1 := he.cell HS0.out; have e2 := he.cell HS1.out; go_simp; rfl); simp only [Act.put, List.setIfInBounds_toArray, List.set_cons_zero, List.set_cons_succ])
  (refine LexW.pure (v := ?_) rfl rfl (fun w1 he => ?_) ?_; rotate_left; ( have e1 := he.cell HS0.out; have e2 := he.cell HS1.out; go_simp; rfl); simp only [Act.put, List.setIfInBounds_toArray, List.set_cons_zero, List.set_cons_succ])
  (refine LexW.callR (f := ?_) (args := ?_) rfl rfl (fun w1 => ?_) (fun w1 he hdep => ?_) (fun v hv => ?_); rotate_left 2; (go_simp; refine ⟨?_, ?_⟩ <;> rfl); ( refine (s_own b off d cap qs w1 hd1 (by omega) (HQ.out.ext (GW.out.trans he))).mono ?_; rintro e w2 ⟨g2, rc2, rfl, ho, x2⟩; exact ⟨_, rfl, x2, g2, rc2, rfl, ho.mono he.size⟩); simp only [Act.put, List.setIfInBounds_toArray, List.set_cons_zero, List.set_cons_succ])
  obtain ⟨_, g7, c7, rfl, _⟩ := hv
  (refine LexW.pure (v := ?_) rfl rfl (fun w1 he => ?_) ?_; rotate_left; ( have e1 := he.cell HS0.out; have e2 := he.cell HS1.out; go_simp; rfl); simp only [Act.put, List.setIfInBounds_toArray, List.set_cons_zero, List.set_cons_succ])
  (refine LexW.pure (v := ?_) rfl rfl (fun w1 he => ?_) ?_; rotate_left; ( have e1 := he.cell HS0.out; have e2 := he.cell HS1.out; go_simp; rfl); simp only [Act.put, List.setIfInBounds_toArray, List.set_cons_zero, List.set_cons_succ])
  (refine LexW.pure (v := ?_) rfl rfl (fun w1 he => ?_) ?_; rotate_left; ( have e1 := he.cell HS0.out; have e2 := he.cell HS1.out; go_simp; rfl); simp only [Act.put, List.setIfInBounds_toArray, List.set_cons_zero, List.set_cons_succ])
  (refine LexW.rel rfl rfl (fun w1 he hdep => ?_) (fun v hv => ?_); ( exact ⟨.slice (some ⟨w1.heap.size, 0, none⟩) 2 2, w1.alloc (.cells #[.int .i64 1, .int .i64 (p - 1)] 2), (by go_simp), ext_alloc _ _, _, rfl, (by simp), (by simp)⟩); simp only [Act.put, List.setIfInBounds_toArray, List.set_cons_zero, List.set_cons_succ])
  obtain ⟨_, g11, rfl, _⟩ := hv
  refine LexW.nil (fun w3 he hkn => ?_)
  obtain ⟨_, _, q7, r7⟩ : (SPred.ownS W.drew.heap.size d qs).holds (.slice (some ⟨g7, 0, none⟩) d c7) w3 := hkn (4, _) (by simp)
  cases q7
  obtain ⟨_, q11, r11, r11'⟩ : (SPred.two 1 (p - 1)).holds (.slice (some ⟨g11, 0, none⟩) 2 2) w3 := hkn (8, _) (by simp)
  cases q11
  have R7 := Lib.hid r7
  have R11 := Lib.hid (rdC_two r11 r11')
  have X3 := Lib.hid he
  clear he hkn r7 r11 r11'
  refine wpListI_appendAll (X3.out.cell HS0.out) rfl (.tmp 7) (.tmp 11) rfl rfl rfl R7.out R11.out (by omega) (by omega) (by omega) X3.out.size ?_
  intro g4 c4 w4 ho4 he4
  have HO4 := Lib.hid ho4
  have X4 := Lib.hid (he4 W.drew (Nat.le_refl _) X3.out)
  clear ho4 he4
  simp only [Act.put, List.setIfInBounds_toArray, List.set_cons_zero, List.set_cons_succ]
  refine wpListI.value (v := ?_) (w' := w4) (X4.out.cell HS0.out) rfl ?_ ?_
  rotate_left
  · go_simp; rfl
  simp only [Act.put, List.setIfInBounds_toArray, List.set_cons_zero, List.set_cons_succ]
  have hc0 := X4.out.cell HR0.out
  have hc1 := X4.out.cell HR1.out
  have hz0 : w4.frozen? ⟨w.heap.size + 1, 0, none⟩ = false := by rw [X4.out.frz _ _ HLt.out]; exact HF0.out 0
  have hz1 : w4.frozen? ⟨w.heap.size + 1, 1, none⟩ = false := by rw [X4.out.frz _ _ HLt.out]; exact HF0.out 1
  refine wpListI.skip (w' := (w4.setCell ⟨w.heap.size + 1, 0, none⟩ (.int .i64 p)).setCell ⟨w.heap.size + 1, 1, none⟩ (.slice (some ⟨g4, 0, none⟩) (d + 2) c4)) (X4.out.cell HS0.out) rfl ?_ ?_
  · go_simp
  have XE := Lib.hid ((((G1.out.trans X4.out).setCell (p := ⟨w.heap.size + 1, 0, none⟩) (by show W1.heap.size ≤ w.heap.size + 1; rw [HZ.out]; exact Nat.le_refl _) (.int .i64 p))).setCell (p := ⟨w.heap.size + 1, 1, none⟩) (by show W1.heap.size ≤ w.heap.size + 1; rw [HZ.out]; exact Nat.le_refl _) (.slice (some ⟨g4, 0, none⟩) (d + 2) c4))
  refine ⟨XE.out.cell HI1.out, strictQ_normal ?_⟩
  simp only [Act.put]
  go_wp2_with (fail)
  refine bodyPost_ret (v := .agg #[.int .i64 p, .slice (some ⟨g4, 0, none⟩) (d + 2) c4]) (by simp [results, Try.results76, go_sem, hc0, hc1]) rfl ⟨g4, c4, rfl, ?_, GW1.out.trans XE.out⟩
  exact ((HO4.out.other HLt.out _).other HLt.out _).mono GW.out.size

set_option maxHeartbeats 1000000 in
theorem c_infinity (p : Int) (a : Option Addr) (d cap : Nat) (w : World) (hd : d ≤ 4194303) :
    Calls Try.prog 88 #[.agg #[.int .i64 p, .slice a d cap]] w fun e w' => ∃ g rc, e = .returned (.slice (some ⟨g, 0, none⟩) (d + 2) rc) ∧ OwnC w.heap.size w' (some ⟨g, 0, none⟩) (d + 2) rc (infL d) ∧ Ext w w' := by
  go_enter Try.func88, Try.ntmps88
  go_wp2_with (go_at_call 60; refine (c_dim _ _ _ _ _).mono ?_; rintro e w1 ⟨rfl, g1⟩)
  obtain ⟨w2, hmk, ho, he⟩ := make_ints w1 d (by omega)
  have HO := Lib.hid ho
  have HE := Lib.hid ((ext_alloc _ _).trans (g1.trans he))
  have hz := g1.size'
  simp only [World.size_alloc] at hz
  clear ho he g1
  rw [hmk]
  go_wp2_with (at_builtin; refine wpList_appendAll rfl (.tmp 5) (.tmp 6) rfl rfl rfl (HO.out.ext (ext_alloc _ _)) (rdC_two (x := 1) (y := 1) (by simp) (by simp)) (by omega) (by omega) (by omega) ?hB ?hk)
  case hB => have := (HO.out.base_of _ rfl).2; simp; omega
  case hk =>
    intro g4 c4 w4 ho4 hg4 he4
    have HO4 := Lib.hid ho4
    have X4 := Lib.hid (he4 w (by omega) (HE.out.alloc _))
    clear ho4 hg4 he4
    go_wp2_with (fail)
    go_ret
    exact ⟨g4, c4, rfl, HO4.out.mono (by omega), X4.out⟩
set_option maxHeartbeats 1000000 in
theorem s_infinity (p : Int) (a : Option Addr) (d cap : Nat) (w : World) (hd : d ≤ 4194303) :
    Calls Try.prog 79 #[.agg #[.int .i64 p, .slice a d cap]] w fun e w' => ∃ g rc, e = .returned (.slice (some ⟨g, 0, none⟩) (d + 2) rc) ∧ OwnC w.heap.size w' (some ⟨g, 0, none⟩) (d + 2) rc (infL d) ∧ Ext w w' := by
  obtain ⟨W, hW⟩ : ∃ W, W = w.alloc (.cells #[.int .i64 p, .slice a d cap] 28) := ⟨_, rfl⟩
  obtain ⟨w2, hmk, ho, he⟩ := make_ints W d (by omega)
  have gW : Ext w W := by rw [hW]; exact ext_alloc _ _
  have HO := Lib.hid ho
  have HE := Lib.hid (gW.trans he)
  have hz := gW.size'
  have hs1 : W.cell? ⟨w.heap.size, 1, none⟩ = some (.slice a d cap) := by rw [hW]; simp
  have HW := Lib.hid hW
  clear ho he gW hW
  go_enter Try.func79, Try.ntmps79
  go_wp2_with (fail)
  rw [← HW.out, hmk]
  go_wp2_with (at_builtin; refine wpList_appendAll rfl (.tmp 6) (.tmp 7) rfl rfl rfl (HO.out.ext (ext_alloc _ _)) (rdC_two (x := 1) (y := 1) (by simp) (by simp)) (by omega) (by omega) (by omega) ?hB ?hk)
  case hB => have := (HO.out.base_of _ rfl).2; simp; omega
  case hk =>
    intro g4 c4 w4 ho4 hg4 he4
    have HO4 := Lib.hid ho4
    have X4 := Lib.hid (he4 w (by omega) (HE.out.alloc _))
    clear ho4 hg4 he4
    go_wp2_with (fail)
    go_ret
    exact ⟨g4, c4, rfl, HO4.out.mono (by omega), X4.out⟩
end Go.Proofs.Ytlchmkaaogokiaa
