/-
  Contracts and plain laws, part 2: ExtS, Alg, Regular, Inv, Eleven, Vec, RowsA, Rows2, RowsC.
  No condition.
-/
import Derived.Test.YtcocbainookkcaaGreatPart0
import Derived.Test.YtcocbainookkcaaGreatPart1
/-
  The extension of a space, infinity: contracts.
  No condition.
-/
namespace Go.Proofs.YtcocbainookkcaaGreat
set_option maxRecDepth 100000
open Go.RowKit

/-- The squares of the extension. -/
def extL (p : Int) (qs : List Int) : List Int := qs ++ [1, p - 1]
theorem extL_len (p : Int) (qs : List Int) : (extL p qs).length = qs.length + 2 := by simp [extL]
theorem extL_isB {p : Int} {qs : List Int} (hp : 3 ≤ p) (h : isB p qs = true) : isB p (extL p qs) = true := by
  unfold isB at h ⊢
  unfold extL
  rw [List.all_append, h]
  simp [inB]; omega
/-- Infinity. -/
def infL (d : Nat) : List Int := List.replicate d 0 ++ [1, 1]

theorem wpListI_appendAll {ops : Array Oper} {rest : List Oper} {o : Oper} {a : Act} {Q : Exit → Act → World → Prop} {I : World → Prop} {w : World} (hI : I w) (hwd : Region.wanted o (yielded ops a.tmps) = true) (s x : Operand)
    (ho : o.op = .call { callee := .builtin .append, args := #[s, x], argTypes := #[24, 24] })
    {B : Nat} {ra : Option Addr} {n cap : Nat} {xs : List Int} {b off m c : Nat} {ys : List Int} (hs : a.eval s = .slice ra n cap) (hx : a.eval x = .slice (some ⟨b, off, none⟩) m c)
    (hown : OwnC B w ra n cap xs) (hy : RdC w (some ⟨b, off, none⟩) m ys) (hm : 0 < m) (hn : n ≤ 4194304) (hml : m ≤ 4194304) (hB : B ≤ w.heap.size)
    (h : ∀ g' cap' w', OwnC B w' (some ⟨g', 0, none⟩) (n + m) cap' (xs ++ ys) → (∀ W : World, W.heap.size ≤ B → Ext W w → Ext W w') →
      wpListI Tryz.prog ops Q I rest (a.put o.dst (.slice (some ⟨g', 0, none⟩) (n + m) cap')) w') : wpListI Tryz.prog ops Q I (o :: rest) a w := by
  obtain ⟨g', cap', w', hr, h1, h2, h3⟩ := run_appendAll hown hy hm hn hml hB o.type (c := c)
  refine wpListI.value (v := .slice (some ⟨g', 0, none⟩) (n + m) cap') hI hwd ?_ (h g' cap' w' h1 h3)
  unfold execOp
  simp only [ho, resolve, invoke, builtin, Sem.run_bind, Sem.run_pure, Result.andThen_ok, List.map_toArray, List.map_cons, List.map_nil, hs, hx, hr]

/-- A row of two numbers. -/
def SPred.two (x y : Int) : SPred := ⟨fun v w => ∃ g, v = .slice (some ⟨g, 0, none⟩) 2 2 ∧ w.cell? ⟨g, 0, none⟩ = some (.int .i64 x) ∧ w.cell? ⟨g, 1, none⟩ = some (.int .i64 y), fun _ _ _ ⟨g, hv, h, h'⟩ he => ⟨g, hv, he.cell h, he.cell h'⟩⟩
theorem rdC_two {w : World} {g : Nat} {x y : Int} (h : w.cell? ⟨g, 0, none⟩ = some (.int .i64 x)) (h' : w.cell? ⟨g, 1, none⟩ = some (.int .i64 y)) : RdC w (some ⟨g, 0, none⟩) 2 [x, y] := by
  refine ⟨rfl, fun i hi => ?_⟩
  have : i = 0 ∨ i = 1 := by omega
  rcases this with rfl | rfl
  · exact ⟨g, 0, rfl, h⟩
  · exact ⟨g, 0, rfl, h'⟩
set_option maxHeartbeats 4000000 in
set_option maxRecDepth 100000 in
theorem c_extended (p : Int) (a : Option Addr) (d cap : Nat) (qs : List Int) (w : World) (hd1 : 0 < d) (hd : d ≤ 4194303) (hp1 : 3 ≤ p) (hp2 : p ≤ 1000) (hq : RdC w a d qs) :
    Calls Tryz.prog 25 #[.agg #[.int .i64 p, .slice a d cap]] w fun e w' => ∃ g rc, e = .returned (.agg #[.int .i64 p, .slice (some ⟨g, 0, none⟩) (d + 2) rc]) ∧ OwnC w.heap.size w' (some ⟨g, 0, none⟩) (d + 2) rc (extL p qs) ∧ Ext w w' := by
  obtain ⟨b, off, rfl, _⟩ := hq.2 0 hd1
  have hw1 : IntKind.i64.wrap (p - 1) = p - 1 := IntWalk.i64_in _ (by omega)
  have HQ := Lib.hid hq
  clear hq
  obtain ⟨W1, hW1⟩ : ∃ W, W = w.alloc (.cells #[.int .i64 p, .slice (some ⟨b, off, none⟩) d cap] 26) := ⟨_, rfl⟩
  obtain ⟨W, hW⟩ : ∃ W, W = W1.alloc (.cells #[.int .i64 0, .slice none 0 0] 26) := ⟨_, rfl⟩
  have gW1 : Ext w W1 := by rw [hW1]; exact ext_alloc _ _
  have gW : Ext W1 W := by rw [hW]; exact ext_alloc _ _
  have hz : W1.heap.size = w.heap.size + 1 := by rw [hW1]; simp
  have hs0 : W1.cell? ⟨w.heap.size, 0, none⟩ = some (.int .i64 p) := by rw [hW1]; simp
  have hs1 : W1.cell? ⟨w.heap.size, 1, none⟩ = some (.slice (some ⟨b, off, none⟩) d cap) := by rw [hW1]; simp
  have hr0 : W.cell? ⟨w.heap.size + 1, 0, none⟩ = some (.int .i64 0) := by rw [hW, ← hz]; simp
  have hr1 : W.cell? ⟨w.heap.size + 1, 1, none⟩ = some (.slice none 0 0) := by rw [hW, ← hz]; simp
  have hf0 : ∀ j, W.frozen? ⟨w.heap.size + 1, j, none⟩ = false := fun j => by rw [hW, ← hz]; simp
  have hlt : w.heap.size + 1 < W.heap.size := by rw [hW, ← hz]; simp
  have HS0 := Lib.hid ((gW.trans (ext_drew _)).cell hs0)
  have HS1 := Lib.hid ((gW.trans (ext_drew _)).cell hs1)
  have HI1 := Lib.hid hs0
  have HR0 := Lib.hid ((ext_drew _).cell hr0)
  have HR1 := Lib.hid ((ext_drew _).cell hr1)
  have HF0 := Lib.hid (show ∀ j, W.drew.frozen? ⟨w.heap.size + 1, j, none⟩ = false from fun j => by rw [(ext_drew W).frz _ _ hlt]; exact hf0 j)
  have GW1 := Lib.hid gW1
  have G1 := Lib.hid (gW.trans (ext_drew W))
  have GW := Lib.hid (gW1.trans (gW.trans (ext_drew W)))
  have HZ := Lib.hid hz
  have HW := Lib.hid hW
  have HW1 := Lib.hid hW1
  have HLt := Lib.hid (show w.heap.size + 1 < W.drew.heap.size from Nat.lt_of_lt_of_le hlt (ext_drew W).size)
  clear hs0 hs1 hr0 hr1 hf0 gW gW1 hz hW hW1 hlt
  go_enter Tryz.func25, Tryz.ntmps25
  go_wp2_with (fail)
  rw [← HW1.out, ← HW.out]
  refine wp_region_lex_tail2 9 [(4, .ownS W.drew.heap.size d qs), (8, .two 1 (p - 1))] (.pointer (some ⟨w.heap.size, 0, none⟩)) (.int .i64 p) (fun w' => w'.cell? ⟨w.heap.size, 0, none⟩ = some (.int .i64 p)) (by kernel_rfl) (by kernel_rfl) rfl rfl (fun w' he => he.cell HS0.out) ⟨rfl, fun w' _ => by go_simp⟩ ⟨rfl, fun w' hI => by go_simp⟩ ?_
  simp only [List.take, List.drop]
  simp only [Act.put, List.setIfInBounds_toArray, List.set_cons_zero, List.set_cons_succ]
  (refine LexW.pure (v := ?_) rfl rfl (fun w1 he => ?_) ?_; rotate_left; ( have e1 := he.cell HS0.out; have e2 := he.cell HS1.out; go_simp; rfl); simp only [Act.put, List.setIfInBounds_toArray, List.set_cons_zero, List.set_cons_succ])
  (refine LexW.pure (v := ?_) rfl rfl (fun w1 he => ?_) ?_; rotate_left; ( have e1 := he.cell HS0.out; have e2 := he.cell HS1.out; go_simp; rfl); simp only [Act.put, List.setIfInBounds_toArray, List.set_cons_zero, List.set_cons_succ])
  (refine LexW.callR (f := ?_) (args := ?_) rfl rfl (fun w1 => ?_) (fun w1 he hdep => ?_) (fun v hv => ?_); rotate_left 2; (go_simp; refine ⟨?_, ?_⟩ <;> rfl); ( refine (c_clone b off d cap qs w1 hd1 (by omega) (HQ.out.ext (GW.out.trans he))).mono ?_; rintro e w2 ⟨g2, rc2, rfl, ho, x2⟩; exact ⟨_, rfl, x2, g2, rc2, rfl, ho.mono he.size⟩); simp only [Act.put, List.setIfInBounds_toArray, List.set_cons_zero, List.set_cons_succ])
  obtain ⟨_, g7, c7, rfl, _⟩ := hv
  (refine LexW.pure (v := ?_) rfl rfl (fun w1 he => ?_) ?_; rotate_left; ( have e1 := he.cell HS0.out; have e2 := he.cell HS1.out; go_simp; rfl); simp only [Act.put, List.setIfInBounds_toArray, List.set_cons_zero, List.set_cons_succ])
  (refine LexW.pure (v := ?_) rfl rfl (fun w1 he => ?_) ?_; rotate_left; ( have e1 := he.cell HS0.out; have e2 := he.cell HS1.out; go_simp; rfl); simp only [Act.put, List.setIfInBounds_toArray, List.set_cons_zero, List.set_cons_succ])
  (refine LexW.pure (v := ?_) rfl rfl (fun w1 he => ?_) ?_; rotate_left; ( have e1 := he.cell HS0.out; have e2 := he.cell HS1.out; go_simp; rfl); simp only [Act.put, List.setIfInBounds_toArray, List.set_cons_zero, List.set_cons_succ])
  (refine LexW.rel rfl rfl (fun w1 he hdep => ?_) (fun v hv => ?_); ( exact ⟨.slice (some ⟨w1.heap.size, 0, none⟩) 2 2, w1.alloc (.cells #[.int .i64 1, .int .i64 (p - 1)] 2), (by go_simp), ext_alloc _ _, _, rfl, (by simp), (by simp)⟩); simp only [Act.put, List.setIfInBounds_toArray, List.set_cons_zero, List.set_cons_succ])
  obtain ⟨_, g11, rfl, _⟩ := hv
  refine LexW.nil (fun w3 he hkn => ?_)
  obtain ⟨_, _, q7, r7⟩ : (SPred.ownS W.drew.heap.size d qs).holds (.slice (some ⟨g7, 0, none⟩) d c7) w3 := hkn (4, _) (by simp)
  cases q7
  obtain ⟨_, q11, r11, r11'⟩ : (SPred.two 1 (p - 1)).holds (.slice (some ⟨g11, 0, none⟩) 2 2) w3 := hkn (8, _) (by simp)
  cases q11
  have R7 := Lib.hid r7
  have R11 := Lib.hid (rdC_two r11 r11')
  have X3 := Lib.hid he
  clear he hkn r7 r11 r11'
  refine wpListI_appendAll (X3.out.cell HS0.out) rfl (.tmp 7) (.tmp 11) rfl rfl rfl R7.out R11.out (by omega) (by omega) (by omega) X3.out.size ?_
  intro g4 c4 w4 ho4 he4
  have HO4 := Lib.hid ho4
  have X4 := Lib.hid (he4 W.drew (Nat.le_refl _) X3.out)
  clear ho4 he4
  simp only [Act.put, List.setIfInBounds_toArray, List.set_cons_zero, List.set_cons_succ]
  refine wpListI.value (v := ?_) (w' := w4) (X4.out.cell HS0.out) rfl ?_ ?_
  rotate_left
  · go_simp; rfl
  simp only [Act.put, List.setIfInBounds_toArray, List.set_cons_zero, List.set_cons_succ]
  have hc0 := X4.out.cell HR0.out
  have hc1 := X4.out.cell HR1.out
  have hz0 : w4.frozen? ⟨w.heap.size + 1, 0, none⟩ = false := by rw [X4.out.frz _ _ HLt.out]; exact HF0.out 0
  have hz1 : w4.frozen? ⟨w.heap.size + 1, 1, none⟩ = false := by rw [X4.out.frz _ _ HLt.out]; exact HF0.out 1
  refine wpListI.skip (w' := (w4.setCell ⟨w.heap.size + 1, 0, none⟩ (.int .i64 p)).setCell ⟨w.heap.size + 1, 1, none⟩ (.slice (some ⟨g4, 0, none⟩) (d + 2) c4)) (X4.out.cell HS0.out) rfl ?_ ?_
  · go_simp
  have XE := Lib.hid ((((G1.out.trans X4.out).setCell (p := ⟨w.heap.size + 1, 0, none⟩) (by show W1.heap.size ≤ w.heap.size + 1; rw [HZ.out]; exact Nat.le_refl _) (.int .i64 p))).setCell (p := ⟨w.heap.size + 1, 1, none⟩) (by show W1.heap.size ≤ w.heap.size + 1; rw [HZ.out]; exact Nat.le_refl _) (.slice (some ⟨g4, 0, none⟩) (d + 2) c4))
  refine ⟨XE.out.cell HI1.out, strictQ_normal ?_⟩
  simp only [Act.put]
  go_wp2_with (fail)
  refine bodyPost_ret (v := .agg #[.int .i64 p, .slice (some ⟨g4, 0, none⟩) (d + 2) c4]) (by simp [results, Tryz.results25, go_sem, hc0, hc1]) rfl ⟨g4, c4, rfl, ?_, GW1.out.trans XE.out⟩
  exact ((HO4.out.other HLt.out _).other HLt.out _).mono GW.out.size

set_option maxHeartbeats 4000000 in
set_option maxRecDepth 100000 in
theorem s_extended (p : Int) (a : Option Addr) (d cap : Nat) (qs : List Int) (w : World) (hd1 : 0 < d) (hd : d ≤ 4194303) (hp1 : 3 ≤ p) (hp2 : p ≤ 1000) (hq : RdC w a d qs) :
    Calls Tryz.prog 28 #[.agg #[.int .i64 p, .slice a d cap]] w fun e w' => ∃ g rc, e = .returned (.agg #[.int .i64 p, .slice (some ⟨g, 0, none⟩) (d + 2) rc]) ∧ OwnC w.heap.size w' (some ⟨g, 0, none⟩) (d + 2) rc (extL p qs) ∧ Ext w w' := by
  obtain ⟨b, off, rfl, _⟩ := hq.2 0 hd1
  have hw1 : IntKind.i64.wrap (p - 1) = p - 1 := IntWalk.i64_in _ (by omega)
  have HQ := Lib.hid hq
  clear hq
  obtain ⟨W1, hW1⟩ : ∃ W, W = w.alloc (.cells #[.int .i64 p, .slice (some ⟨b, off, none⟩) d cap] 26) := ⟨_, rfl⟩
  obtain ⟨W, hW⟩ : ∃ W, W = W1.alloc (.cells #[.int .i64 0, .slice none 0 0] 26) := ⟨_, rfl⟩
  have gW1 : Ext w W1 := by rw [hW1]; exact ext_alloc _ _
  have gW : Ext W1 W := by rw [hW]; exact ext_alloc _ _
  have hz : W1.heap.size = w.heap.size + 1 := by rw [hW1]; simp
  have hs0 : W1.cell? ⟨w.heap.size, 0, none⟩ = some (.int .i64 p) := by rw [hW1]; simp
  have hs1 : W1.cell? ⟨w.heap.size, 1, none⟩ = some (.slice (some ⟨b, off, none⟩) d cap) := by rw [hW1]; simp
  have hr0 : W.cell? ⟨w.heap.size + 1, 0, none⟩ = some (.int .i64 0) := by rw [hW, ← hz]; simp
  have hr1 : W.cell? ⟨w.heap.size + 1, 1, none⟩ = some (.slice none 0 0) := by rw [hW, ← hz]; simp
  have hf0 : ∀ j, W.frozen? ⟨w.heap.size + 1, j, none⟩ = false := fun j => by rw [hW, ← hz]; simp
  have hlt : w.heap.size + 1 < W.heap.size := by rw [hW, ← hz]; simp
  have HS0 := Lib.hid ((gW.trans (ext_drew _)).cell hs0)
  have HS1 := Lib.hid ((gW.trans (ext_drew _)).cell hs1)
  have HI1 := Lib.hid hs0
  have HR0 := Lib.hid ((ext_drew _).cell hr0)
  have HR1 := Lib.hid ((ext_drew _).cell hr1)
  have HF0 := Lib.hid (show ∀ j, W.drew.frozen? ⟨w.heap.size + 1, j, none⟩ = false from fun j => by rw [(ext_drew W).frz _ _ hlt]; exact hf0 j)
  have GW1 := Lib.hid gW1
  have G1 := Lib.hid (gW.trans (ext_drew W))
  have GW := Lib.hid (gW1.trans (gW.trans (ext_drew W)))
  have HZ := Lib.hid hz
  have HW := Lib.hid hW
  have HW1 := Lib.hid hW1
  have HLt := Lib.hid (show w.heap.size + 1 < W.drew.heap.size from Nat.lt_of_lt_of_le hlt (ext_drew W).size)
  clear hs0 hs1 hr0 hr1 hf0 gW gW1 hz hW hW1 hlt
  go_enter Tryz.func28, Tryz.ntmps28
  go_wp2_with (fail)
  rw [← HW1.out, ← HW.out]
  refine wp_region_lex_tail2 9 [(4, .ownS W.drew.heap.size d qs), (8, .two 1 (p - 1))] (.pointer (some ⟨w.heap.size, 0, none⟩)) (.int .i64 p) (fun w' => w'.cell? ⟨w.heap.size, 0, none⟩ = some (.int .i64 p)) (by kernel_rfl) (by kernel_rfl) rfl rfl (fun w' he => he.cell HS0.out) ⟨rfl, fun w' _ => by go_simp⟩ ⟨rfl, fun w' hI => by go_simp⟩ ?_
  simp only [List.take, List.drop]
  simp only [Act.put, List.setIfInBounds_toArray, List.set_cons_zero, List.set_cons_succ]
  (refine LexW.pure (v := ?_) rfl rfl (fun w1 he => ?_) ?_; rotate_left; ( have e1 := he.cell HS0.out; have e2 := he.cell HS1.out; go_simp; rfl); simp only [Act.put, List.setIfInBounds_toArray, List.set_cons_zero, List.set_cons_succ])
  (refine LexW.pure (v := ?_) rfl rfl (fun w1 he => ?_) ?_; rotate_left; ( have e1 := he.cell HS0.out; have e2 := he.cell HS1.out; go_simp; rfl); simp only [Act.put, List.setIfInBounds_toArray, List.set_cons_zero, List.set_cons_succ])
  (refine LexW.callR (f := ?_) (args := ?_) rfl rfl (fun w1 => ?_) (fun w1 he hdep => ?_) (fun v hv => ?_); rotate_left 2; (go_simp; refine ⟨?_, ?_⟩ <;> rfl); ( refine (s_own b off d cap qs w1 hd1 (by omega) (HQ.out.ext (GW.out.trans he))).mono ?_; rintro e w2 ⟨g2, rc2, rfl, ho, x2⟩; exact ⟨_, rfl, x2, g2, rc2, rfl, ho.mono he.size⟩); simp only [Act.put, List.setIfInBounds_toArray, List.set_cons_zero, List.set_cons_succ])
  obtain ⟨_, g7, c7, rfl, _⟩ := hv
  (refine LexW.pure (v := ?_) rfl rfl (fun w1 he => ?_) ?_; rotate_left; ( have e1 := he.cell HS0.out; have e2 := he.cell HS1.out; go_simp; rfl); simp only [Act.put, List.setIfInBounds_toArray, List.set_cons_zero, List.set_cons_succ])
  (refine LexW.pure (v := ?_) rfl rfl (fun w1 he => ?_) ?_; rotate_left; ( have e1 := he.cell HS0.out; have e2 := he.cell HS1.out; go_simp; rfl); simp only [Act.put, List.setIfInBounds_toArray, List.set_cons_zero, List.set_cons_succ])
  (refine LexW.pure (v := ?_) rfl rfl (fun w1 he => ?_) ?_; rotate_left; ( have e1 := he.cell HS0.out; have e2 := he.cell HS1.out; go_simp; rfl); simp only [Act.put, List.setIfInBounds_toArray, List.set_cons_zero, List.set_cons_succ])
  (refine LexW.rel rfl rfl (fun w1 he hdep => ?_) (fun v hv => ?_); ( exact ⟨.slice (some ⟨w1.heap.size, 0, none⟩) 2 2, w1.alloc (.cells #[.int .i64 1, .int .i64 (p - 1)] 2), (by go_simp), ext_alloc _ _, _, rfl, (by simp), (by simp)⟩); simp only [Act.put, List.setIfInBounds_toArray, List.set_cons_zero, List.set_cons_succ])
  obtain ⟨_, g11, rfl, _⟩ := hv
  refine LexW.nil (fun w3 he hkn => ?_)
  obtain ⟨_, _, q7, r7⟩ : (SPred.ownS W.drew.heap.size d qs).holds (.slice (some ⟨g7, 0, none⟩) d c7) w3 := hkn (4, _) (by simp)
  cases q7
  obtain ⟨_, q11, r11, r11'⟩ : (SPred.two 1 (p - 1)).holds (.slice (some ⟨g11, 0, none⟩) 2 2) w3 := hkn (8, _) (by simp)
  cases q11
  have R7 := Lib.hid r7
  have R11 := Lib.hid (rdC_two r11 r11')
  have X3 := Lib.hid he
  clear he hkn r7 r11 r11'
  refine wpListI_appendAll (X3.out.cell HS0.out) rfl (.tmp 7) (.tmp 11) rfl rfl rfl R7.out R11.out (by omega) (by omega) (by omega) X3.out.size ?_
  intro g4 c4 w4 ho4 he4
  have HO4 := Lib.hid ho4
  have X4 := Lib.hid (he4 W.drew (Nat.le_refl _) X3.out)
  clear ho4 he4
  simp only [Act.put, List.setIfInBounds_toArray, List.set_cons_zero, List.set_cons_succ]
  refine wpListI.value (v := ?_) (w' := w4) (X4.out.cell HS0.out) rfl ?_ ?_
  rotate_left
  · go_simp; rfl
  simp only [Act.put, List.setIfInBounds_toArray, List.set_cons_zero, List.set_cons_succ]
  have hc0 := X4.out.cell HR0.out
  have hc1 := X4.out.cell HR1.out
  have hz0 : w4.frozen? ⟨w.heap.size + 1, 0, none⟩ = false := by rw [X4.out.frz _ _ HLt.out]; exact HF0.out 0
  have hz1 : w4.frozen? ⟨w.heap.size + 1, 1, none⟩ = false := by rw [X4.out.frz _ _ HLt.out]; exact HF0.out 1
  refine wpListI.skip (w' := (w4.setCell ⟨w.heap.size + 1, 0, none⟩ (.int .i64 p)).setCell ⟨w.heap.size + 1, 1, none⟩ (.slice (some ⟨g4, 0, none⟩) (d + 2) c4)) (X4.out.cell HS0.out) rfl ?_ ?_
  · go_simp
  have XE := Lib.hid ((((G1.out.trans X4.out).setCell (p := ⟨w.heap.size + 1, 0, none⟩) (by show W1.heap.size ≤ w.heap.size + 1; rw [HZ.out]; exact Nat.le_refl _) (.int .i64 p))).setCell (p := ⟨w.heap.size + 1, 1, none⟩) (by show W1.heap.size ≤ w.heap.size + 1; rw [HZ.out]; exact Nat.le_refl _) (.slice (some ⟨g4, 0, none⟩) (d + 2) c4))
  refine ⟨XE.out.cell HI1.out, strictQ_normal ?_⟩
  simp only [Act.put]
  go_wp2_with (fail)
  refine bodyPost_ret (v := .agg #[.int .i64 p, .slice (some ⟨g4, 0, none⟩) (d + 2) c4]) (by simp [results, Tryz.results28, go_sem, hc0, hc1]) rfl ⟨g4, c4, rfl, ?_, GW1.out.trans XE.out⟩
  exact ((HO4.out.other HLt.out _).other HLt.out _).mono GW.out.size

set_option maxHeartbeats 1000000 in
theorem c_infinity (p : Int) (a : Option Addr) (d cap : Nat) (w : World) (hd : d ≤ 4194303) :
    Calls Tryz.prog 49 #[.agg #[.int .i64 p, .slice a d cap]] w fun e w' => ∃ g rc, e = .returned (.slice (some ⟨g, 0, none⟩) (d + 2) rc) ∧ OwnC w.heap.size w' (some ⟨g, 0, none⟩) (d + 2) rc (infL d) ∧ Ext w w' := by
  go_enter Tryz.func49, Tryz.ntmps49
  go_wp2_with (go_at_call 53; refine (c_dim _ _ _ _ _).mono ?_; rintro e w1 ⟨rfl, g1⟩)
  obtain ⟨w2, hmk, ho, he⟩ := make_ints w1 d (by omega)
  have HO := Lib.hid ho
  have HE := Lib.hid ((ext_alloc _ _).trans (g1.trans he))
  have hz := g1.size'
  simp only [World.size_alloc] at hz
  clear ho he g1
  rw [hmk]
  go_wp2_with (at_builtin; refine wpList_appendAll rfl (.tmp 5) (.tmp 6) rfl rfl rfl (HO.out.ext (ext_alloc _ _)) (rdC_two (x := 1) (y := 1) (by simp) (by simp)) (by omega) (by omega) (by omega) ?hB ?hk)
  case hB => have := (HO.out.base_of _ rfl).2; simp; omega
  case hk =>
    intro g4 c4 w4 ho4 hg4 he4
    have HO4 := Lib.hid ho4
    have X4 := Lib.hid (he4 w (by omega) (HE.out.alloc _))
    clear ho4 hg4 he4
    go_wp2_with (fail)
    go_ret
    exact ⟨g4, c4, rfl, HO4.out.mono (by omega), X4.out⟩
set_option maxHeartbeats 1000000 in
theorem s_infinity (p : Int) (a : Option Addr) (d cap : Nat) (w : World) (hd : d ≤ 4194303) :
    Calls Tryz.prog 60 #[.agg #[.int .i64 p, .slice a d cap]] w fun e w' => ∃ g rc, e = .returned (.slice (some ⟨g, 0, none⟩) (d + 2) rc) ∧ OwnC w.heap.size w' (some ⟨g, 0, none⟩) (d + 2) rc (infL d) ∧ Ext w w' := by
  obtain ⟨W, hW⟩ : ∃ W, W = w.alloc (.cells #[.int .i64 p, .slice a d cap] 26) := ⟨_, rfl⟩
  obtain ⟨w2, hmk, ho, he⟩ := make_ints W d (by omega)
  have gW : Ext w W := by rw [hW]; exact ext_alloc _ _
  have HO := Lib.hid ho
  have HE := Lib.hid (gW.trans he)
  have hz := gW.size'
  have hs1 : W.cell? ⟨w.heap.size, 1, none⟩ = some (.slice a d cap) := by rw [hW]; simp
  have HW := Lib.hid hW
  clear ho he gW hW
  go_enter Tryz.func60, Tryz.ntmps60
  go_wp2_with (fail)
  rw [← HW.out, hmk]
  go_wp2_with (at_builtin; refine wpList_appendAll rfl (.tmp 6) (.tmp 7) rfl rfl rfl (HO.out.ext (ext_alloc _ _)) (rdC_two (x := 1) (y := 1) (by simp) (by simp)) (by omega) (by omega) (by omega) ?hB ?hk)
  case hB => have := (HO.out.base_of _ rfl).2; simp; omega
  case hk =>
    intro g4 c4 w4 ho4 hg4 he4
    have HO4 := Lib.hid ho4
    have X4 := Lib.hid (he4 w (by omega) (HE.out.alloc _))
    clear ho4 hg4 he4
    go_wp2_with (fail)
    go_ret
    exact ⟨g4, c4, rfl, HO4.out.mono (by omega), X4.out⟩
end Go.Proofs.YtcocbainookkcaaGreat

/-
  The geometric product in plain numbers: a formula for its coefficients, associativity, sums, multiples.
  No condition. No program in sight.
-/
namespace Go.Proofs.YtcocbainookkcaaGreat
set_option maxRecDepth 100000
open Go.RowKit

/-! ### Sums -/
def sumN : Nat → (Nat → Int) → Int
  | 0, _ => 0
  | n + 1, g => sumN n g + g n
theorem sumN_congr {n : Nat} {f g : Nat → Int} (h : ∀ i, i < n → f i = g i) : sumN n f = sumN n g := by
  induction n with
  | zero => rfl
  | succ n ih => simp only [sumN]; rw [ih (fun i hi => h i (by omega)), h n (by omega)]
theorem sumN_zero {n : Nat} {f : Nat → Int} (h : ∀ i, i < n → f i = 0) : sumN n f = 0 := by
  induction n with
  | zero => rfl
  | succ n ih => simp only [sumN]; rw [ih (fun i hi => h i (by omega)), h n (by omega)]; rfl
theorem sumN_add (n : Nat) (f g : Nat → Int) : sumN n (fun i => f i + g i) = sumN n f + sumN n g := by
  induction n with
  | zero => rfl
  | succ n ih => simp only [sumN]; rw [ih]; omega
theorem sumN_mul (n : Nat) (c : Int) (f : Nat → Int) : sumN n (fun i => c * f i) = c * sumN n f := by
  induction n with
  | zero => simp [sumN]
  | succ n ih => simp only [sumN]; rw [ih, Int.mul_add]
theorem sumN_mulr (n : Nat) (c : Int) (f : Nat → Int) : sumN n (fun i => f i * c) = sumN n f * c := by
  induction n with
  | zero => simp [sumN]
  | succ n ih => simp only [sumN]; rw [ih, Int.add_mul]
theorem sumN_swap (n m : Nat) (f : Nat → Nat → Int) : sumN n (fun i => sumN m (fun j => f i j)) = sumN m (fun j => sumN n (fun i => f i j)) := by
  induction n with
  | zero => simp only [sumN]; exact (sumN_zero (fun _ _ => rfl)).symm
  | succ n ih => simp only [sumN]; rw [ih, ← sumN_add]
theorem sumN_single {n : Nat} {f : Nat → Int} {k : Nat} (hk : k < n) (h : ∀ i, i < n → i ≠ k → f i = 0) : sumN n f = f k := by
  induction n with
  | zero => omega
  | succ n ih =>
    simp only [sumN]
    by_cases hkn : k = n
    · subst hkn
      rw [sumN_zero (fun i hi => h i (by omega) (by omega))]; omega
    · rw [ih (by omega) (fun i hi hne => h i (by omega) hne), h n (by omega) (by omega)]; omega
theorem sumN_emod {p : Int} {n : Nat} {f g : Nat → Int} (h : ∀ i, i < n → f i % p = g i % p) : sumN n f % p = sumN n g % p := by
  induction n with
  | zero => rfl
  | succ n ih =>
    simp only [sumN]
    rw [Int.add_emod, ih (fun i hi => h i (by omega)), h n (by omega), ← Int.add_emod]
theorem mul_emod_congr {p a b c d : Int} (h : a % p = b % p) (h' : c % p = d % p) : (a * c) % p = (b * d) % p := by
  rw [Int.mul_emod, h, h', ← Int.mul_emod]

def sumL (l : List Nat) (g : Nat → Int) : Int := l.foldr (fun i s => g i + s) 0
theorem sumL_cons (a : Nat) (l : List Nat) (g : Nat → Int) : sumL (a :: l) g = g a + sumL l g := rfl
theorem sumL_snoc (l : List Nat) (i : Nat) (g : Nat → Int) : sumL (l ++ [i]) g = sumL l g + g i := by
  induction l with
  | nil => simp [sumL]
  | cons a l ih =>
    rw [List.cons_append, sumL_cons, ih, sumL_cons]; omega
theorem sumN_range (n : Nat) (g : Nat → Int) : sumN n g = sumL (List.range n) g := by
  induction n with
  | zero => rfl
  | succ n ih => rw [List.range_succ, sumL_snoc, ← ih]; rfl
theorem sumL_perm {l l' : List Nat} (h : l.Perm l') (g : Nat → Int) : sumL l g = sumL l' g := by
  induction h with
  | nil => rfl
  | cons x _ ih => rw [sumL_cons, sumL_cons, ih]
  | swap x y l => rw [sumL_cons, sumL_cons, sumL_cons, sumL_cons]; omega
  | trans _ _ ih1 ih2 => rw [ih1, ih2]
theorem sumL_map (l : List Nat) (f : Nat → Nat) (g : Nat → Int) : sumL (l.map f) g = sumL l (fun i => g (f i)) := by
  induction l with
  | nil => rfl
  | cons a l ih => rw [List.map_cons, sumL_cons, sumL_cons, ih]
theorem xor_perm : ∀ d : Nat, d < 7 → ∀ a : Nat, a < 2 ^ d → ((List.range (2 ^ d)).map (fun m => a ^^^ m)).isPerm (List.range (2 ^ d)) = true := by decide +kernel
theorem sumN_xor {d a : Nat} (hd : d ≤ 6) (ha : a < 2 ^ d) (g : Nat → Int) : sumN (2 ^ d) (fun m => g (a ^^^ m)) = sumN (2 ^ d) g := by
  have h := List.isPerm_iff.1 (xor_perm d (by omega) a ha)
  rw [sumN_range, sumN_range]
  exact (sumL_map _ _ _).symm.trans (sumL_perm h g)

/-! ### The coefficients of a product -/
theorem inP_nth {p : Int} {f : Nat → Nat → Int} {tk : Nat → Nat → Bool} {x y : List Int} {d a : Nat} {out : List Int} (hp : 1 ≤ p) (ha : a < 2 ^ d) (ho : Good p (2 ^ d) out) {k : Nat} (hk : k < 2 ^ d) :
    ∀ b, b ≤ 2 ^ d → nth (inP p f tk x y a b out) k = (nth out k + sumN b (fun j => if (tk a j && (a ^^^ j == k)) = true then nth x a * nth y j * f a j else 0)) % p
  | 0, _ => by
    have := ho.2 k hk
    simp only [inP, sumN, Int.add_zero]
    rw [Int.emod_eq_of_lt this.1 this.2]
  | b + 1, hb => by
    have ih := inP_nth (f := f) (tk := tk) (x := x) (y := y) hp ha ho hk b (by omega)
    have hg := inP_good (f := f) (tk := tk) (x := x) (y := y) (a := a) hp ho b
    have hc : a ^^^ b < 2 ^ d := Nat.xor_lt_two_pow ha (by omega)
    simp only [inP, sumN]
    cases ht : tk a b
    · rw [stepP_not ht, ih]; simp
    · rw [stepP_yes ht, nth_set (by rw [hg.1]; exact hc)]
      by_cases hab : a ^^^ b = k
      · rw [if_pos hab, hab, ih]
        simp only [BEq.rfl, Bool.and_self, if_true]
        rw [Int.emod_add_emod, Int.add_assoc]
      · rw [if_neg hab, ih]
        simp [hab]
theorem outP_nth {p : Int} {f : Nat → Nat → Int} {tk : Nat → Nat → Bool} {x y : List Int} {d : Nat} (hp : 1 ≤ p) {k : Nat} (hk : k < 2 ^ d) :
    ∀ a, a ≤ 2 ^ d → nth (outP p f tk x y (2 ^ d) a) k = (sumN a fun i => sumN (2 ^ d) fun j => if (tk i j && (i ^^^ j == k)) = true then nth x i * nth y j * f i j else 0) % p
  | 0, _ => by simp [outP, sumN, nth_replicate hk]
  | a + 1, ha => by
    have ih := outP_nth (f := f) (tk := tk) (x := x) (y := y) hp hk a (by omega)
    simp only [outP, sumN]
    rw [inP_nth hp (by omega) (outP_good hp a) hk _ (Nat.le_refl _), ih, Int.emod_add_emod]
theorem prod_nth {p : Int} {qs : List Int} {tk : Nat → Nat → Bool} {x y : List Int} (hp : 1 ≤ p) {k : Nat} (hk : k < 2 ^ qs.length) :
    nth (prodL p qs tk x y) k = (sumN (2 ^ qs.length) fun i => sumN (2 ^ qs.length) fun j => if (tk i j && (i ^^^ j == k)) = true then nth x i * nth y j * fac p qs i j else 0) % p :=
  outP_nth hp hk _ (Nat.le_refl _)
theorem xor_eq_iff {a b k : Nat} : a ^^^ b = k ↔ b = a ^^^ k := by
  constructor
  · rintro rfl; rw [← Nat.xor_assoc, Nat.xor_self, Nat.zero_xor]
  · rintro rfl; rw [← Nat.xor_assoc, Nat.xor_self, Nat.zero_xor]
/-- One sum: the pairs of a blade i and the blade that leads to k. -/
theorem prod_nth1 {p : Int} {qs : List Int} {tk : Nat → Nat → Bool} {x y : List Int} (hp : 1 ≤ p) {k : Nat} (hk : k < 2 ^ qs.length) :
    nth (prodL p qs tk x y) k = (sumN (2 ^ qs.length) fun i => if tk i (i ^^^ k) = true then nth x i * nth y (i ^^^ k) * fac p qs i (i ^^^ k) else 0) % p := by
  rw [prod_nth hp hk]
  congr 1
  refine sumN_congr fun i hi => ?_
  rw [sumN_single (k := i ^^^ k) (Nat.xor_lt_two_pow hi hk) (fun j _ hne => by
    have : ¬ i ^^^ j = k := fun h => hne (xor_eq_iff.1 h)
    simp [this])]
  have : i ^^^ (i ^^^ k) = k := by rw [← Nat.xor_assoc, Nat.xor_self, Nat.zero_xor]
  simp [this]

/-! ### The factor over the integers -/
def sgZ (a k : Nat) : Int := if popc (a >>> (k + 1)) % 2 = 1 then -1 else 1
def stZ (qs : List Int) (a b k : Nat) : Int := if b.testBit k then (if a.testBit k then sgZ a k * nth qs k else sgZ a k) else 1
def facZ (qs : List Int) (a b : Nat) : Nat → Int
  | 0 => 1
  | k + 1 => facZ qs a b k * stZ qs a b k
theorem sgn_emod {p o o' : Int} {s : Nat} (h : o % p = o' % p) : sgn p s o % p = ((if s % 2 = 1 then -1 else 1) * o') % p := by
  unfold sgn
  split
  · rw [Int.emod_emod, show -o = -1 * o by omega]
    exact mul_emod_congr rfl h
  · rw [Int.one_mul]; exact h
theorem fac_emod_k {p : Int} {qs : List Int} {a b : Nat} (k : Nat) : sgn p (facS p qs a b k).1 (facS p qs a b k).2 % p = facZ qs a b k % p := by
  induction k with
  | zero => simp [facS, facZ, sgn]
  | succ k ih =>
    have h1 := sgn_emod (p := p) (s := (facS p qs a b k).1) (o := (facS p qs a b k).2) rfl
    rw [h1] at ih
    cases hb : b.testBit k
    · rw [facS_no hb]
      simp only [facZ, stZ, hb]
      rw [h1, ih]; simp
    · have hsg : ∀ s t : Nat, (if (s + t) % 2 = 1 then (-1 : Int) else 1) = (if s % 2 = 1 then -1 else 1) * (if t % 2 = 1 then -1 else 1) := by
        intro s t
        have : s % 2 = 0 ∨ s % 2 = 1 := by omega
        have : t % 2 = 0 ∨ t % 2 = 1 := by omega
        rcases ‹s % 2 = 0 ∨ s % 2 = 1› with h | h <;> rcases ‹t % 2 = 0 ∨ t % 2 = 1› with h' | h'
        · have : (s + t) % 2 = 0 := by omega
          simp [h, h', this]
        · have : (s + t) % 2 = 1 := by omega
          simp [h, h', this]
        · have : (s + t) % 2 = 1 := by omega
          simp [h, h', this]
        · have : (s + t) % 2 = 0 := by omega
          simp [h, h', this]
      cases ha : a.testBit k
      · rw [facS_one hb ha]
        simp only [facZ, stZ, hb, ha, if_true, sgZ]
        rw [sgn_emod rfl, hsg, Int.mul_right_comm]
        exact mul_emod_congr ih rfl
      · rw [facS_two hb ha]
        simp only [facZ, stZ, hb, ha, if_true, sgZ]
        rw [sgn_emod (o' := (facS p qs a b k).2 * nth qs k) (by rw [Int.emod_emod]), hsg, show ∀ u v x y : Int, (u * v) * (x * y) = (u * x) * (v * y) from fun u v x y => by ac_rfl]
        exact mul_emod_congr ih rfl
theorem fac_emod {p : Int} {qs : List Int} {a b : Nat} : fac p qs a b % p = facZ qs a b qs.length % p := fac_emod_k _

theorem sgZ_xor (a b k : Nat) (ha : a < 64) (hb : b < 64) (hk : k < 6) : sgZ (a ^^^ b) k = sgZ a k * sgZ b k := by
  have : ∀ k : Nat, k < 6 → ∀ a : Nat, a < 64 → ∀ b : Nat, b < 64 → sgZ (a ^^^ b) k = sgZ a k * sgZ b k := by decide +kernel
  exact this k hk a ha b hb
theorem sgZ_sq (a k : Nat) : sgZ a k * sgZ a k = 1 := by unfold sgZ; split <;> rfl
theorem stZ_cocycle {qs : List Int} {a b c k : Nat} (ha : a < 64) (hb : b < 64) (hk : k < 6) : stZ qs a b k * stZ qs (a ^^^ b) c k = stZ qs b c k * stZ qs a (b ^^^ c) k := by
  have hs := sgZ_xor a b k ha hb hk
  have h2 := sgZ_sq a k
  unfold stZ
  rw [hs]
  simp only [Nat.testBit_xor]
  cases a.testBit k <;> cases b.testBit k <;> cases c.testBit k <;> simp
  · exact Int.mul_comm _ _
  · rw [show sgZ a k * (sgZ a k * sgZ b k * nth qs k) = (sgZ a k * sgZ a k) * (sgZ b k * nth qs k) by ac_rfl, h2, Int.one_mul]
  · ac_rfl
  · rw [show sgZ a k * nth qs k * (sgZ a k * sgZ b k) = (sgZ a k * sgZ a k) * (sgZ b k * nth qs k) by ac_rfl, h2, Int.one_mul]
theorem facZ_cocycle {qs : List Int} {a b c : Nat} (ha : a < 64) (hb : b < 64) : ∀ k, k ≤ 6 → facZ qs a b k * facZ qs (a ^^^ b) c k = facZ qs b c k * facZ qs a (b ^^^ c) k
  | 0, _ => rfl
  | k + 1, hk => by
    have ih := facZ_cocycle (qs := qs) (c := c) ha hb k (by omega)
    have hs := stZ_cocycle (qs := qs) (c := c) ha hb (show k < 6 by omega)
    simp only [facZ]
    rw [show facZ qs a b k * stZ qs a b k * (facZ qs (a ^^^ b) c k * stZ qs (a ^^^ b) c k) = (facZ qs a b k * facZ qs (a ^^^ b) c k) * (stZ qs a b k * stZ qs (a ^^^ b) c k) by ac_rfl, ih, hs]
    ac_rfl

/-! ### The geometric product -/
/-- The coefficient with the factor over the integers. -/
theorem prodA_nth {p : Int} {qs x y : List Int} (hp : 1 ≤ p) {k : Nat} (hk : k < 2 ^ qs.length) :
    nth (prodL p qs tkA x y) k = (sumN (2 ^ qs.length) fun i => nth x i * nth y (i ^^^ k) * facZ qs i (i ^^^ k) qs.length) % p := by
  rw [prod_nth1 hp hk]
  refine sumN_emod fun i hi => ?_
  simp only [tkA, if_true]
  exact mul_emod_congr rfl fac_emod
theorem xor_cancel (a m k : Nat) : a ^^^ m ^^^ (a ^^^ k) = m ^^^ k := by
  rw [Nat.xor_comm a m, Nat.xor_assoc, ← Nat.xor_assoc a a k, Nat.xor_self, Nat.zero_xor]
theorem prod_assoc {p : Int} {qs x y z : List Int} (hp : 1 ≤ p) (hd : qs.length ≤ 6) : prodL p qs tkA (prodL p qs tkA x y) z = prodL p qs tkA x (prodL p qs tkA y z) := by
  have hN := pow_le64 hd
  refine ext_nth (by rw [(prod_good hp).1, (prod_good hp).1]) fun k hk => ?_
  rw [(prod_good hp).1] at hk
  rw [prodA_nth hp hk, prodA_nth hp hk]
  have e1 : ∀ m, m < 2 ^ qs.length → (nth (prodL p qs tkA x y) m * nth z (m ^^^ k) * facZ qs m (m ^^^ k) qs.length) % p =
      (sumN (2 ^ qs.length) fun a => nth x a * nth y (a ^^^ m) * facZ qs a (a ^^^ m) qs.length * (nth z (m ^^^ k) * facZ qs m (m ^^^ k) qs.length)) % p := fun m hm => by
    rw [prodA_nth hp hm, sumN_mulr, Int.mul_assoc]
    exact mul_emod_congr (Int.emod_emod _ _) rfl
  have e2 : ∀ a, a < 2 ^ qs.length → (nth x a * nth (prodL p qs tkA y z) (a ^^^ k) * facZ qs a (a ^^^ k) qs.length) % p =
      (sumN (2 ^ qs.length) fun m => nth x a * nth y (a ^^^ m) * facZ qs a (a ^^^ m) qs.length * (nth z (m ^^^ k) * facZ qs m (m ^^^ k) qs.length)) % p := fun a ha => by
    rw [prodA_nth hp (Nat.xor_lt_two_pow ha hk), ← sumN_xor hd ha]
    have : (nth x a * ((sumN (2 ^ qs.length) fun m => nth y (a ^^^ m) * nth z (a ^^^ m ^^^ (a ^^^ k)) * facZ qs (a ^^^ m) (a ^^^ m ^^^ (a ^^^ k)) qs.length) % p) * facZ qs a (a ^^^ k) qs.length) % p =
        (nth x a * (sumN (2 ^ qs.length) fun m => nth y (a ^^^ m) * nth z (a ^^^ m ^^^ (a ^^^ k)) * facZ qs (a ^^^ m) (a ^^^ m ^^^ (a ^^^ k)) qs.length) * facZ qs a (a ^^^ k) qs.length) % p :=
      mul_emod_congr (mul_emod_congr rfl (Int.emod_emod _ _)) rfl
    rw [this, ← sumN_mul, ← sumN_mulr]
    congr 1
    refine sumN_congr fun m hm => ?_
    rw [xor_cancel]
    have hc := facZ_cocycle (qs := qs) (a := a) (b := a ^^^ m) (c := m ^^^ k) (by omega) (Nat.lt_of_lt_of_le (Nat.xor_lt_two_pow ha hm) hN) qs.length hd
    rw [show a ^^^ (a ^^^ m) = m by rw [← Nat.xor_assoc, Nat.xor_self, Nat.zero_xor], show a ^^^ m ^^^ (m ^^^ k) = a ^^^ k by rw [Nat.xor_assoc, ← Nat.xor_assoc m m k, Nat.xor_self, Nat.zero_xor]] at hc
    rw [show nth x a * nth y (a ^^^ m) * facZ qs a (a ^^^ m) qs.length * (nth z (m ^^^ k) * facZ qs m (m ^^^ k) qs.length) = nth x a * nth y (a ^^^ m) * nth z (m ^^^ k) * (facZ qs a (a ^^^ m) qs.length * facZ qs m (m ^^^ k) qs.length) by ac_rfl, hc]
    ac_rfl
  rw [sumN_emod e1, sumN_emod e2, sumN_swap]

theorem fac_right {p : Int} {qs : List Int} {a : Nat} : fac p qs a 0 = 1 := by
  have : ∀ k, facS p qs a 0 k = (0, 1) := fun k => by
    induction k with
    | zero => rfl
    | succ k ih => rw [facS_no (by simp), ih]
  simp [fac, this, sgn]
theorem times_one {p : Int} {qs x : List Int} (hp : 1 ≤ p) (hx : Good p (2 ^ qs.length) x) : prodL p qs tkA x (bladeL (2 ^ qs.length) 0) = x := by
  have hN : 0 < 2 ^ qs.length := Nat.pos_of_ne_zero (by simp)
  refine ext_nth (by rw [(prod_good hp).1, hx.1]) fun k hk => ?_
  rw [(prod_good hp).1] at hk
  rw [prod_nth1 hp hk, sumN_single hk (fun i hi hne => by
    have : ¬ 0 = i ^^^ k := fun h => hne (by have := xor_eq_iff.1 h.symm; simpa using this.symm)
    simp [tkA, bladeL_nth hN (Nat.xor_lt_two_pow hi hk), this])]
  rw [Nat.xor_self, fac_right, bladeL_nth hN hN]
  simp only [tkA, if_true, Int.mul_one]
  have := hx.2 k hk
  exact Int.emod_eq_of_lt this.1 this.2

/-! ### Powers -/
def powL (p : Int) (qs x : List Int) : Nat → List Int
  | 0 => bladeL (2 ^ qs.length) 0
  | k + 1 => prodL p qs tkA (powL p qs x k) x
theorem pow_good {p : Int} {qs x : List Int} (hp : 3 ≤ p) : ∀ k, Good p (2 ^ qs.length) (powL p qs x k)
  | 0 => blade_good hp
  | k + 1 => prod_good (by omega)
theorem pow_one {p : Int} {qs x : List Int} (hp : 3 ≤ p) (hx : Good p (2 ^ qs.length) x) : powL p qs x 1 = x := one_times hp hx
theorem pow_add {p : Int} {qs x : List Int} (hp : 3 ≤ p) (hd : qs.length ≤ 6) (m : Nat) : ∀ n, prodL p qs tkA (powL p qs x m) (powL p qs x n) = powL p qs x (m + n)
  | 0 => times_one (by omega) (pow_good hp m)
  | n + 1 => by
    show prodL p qs tkA (powL p qs x m) (prodL p qs tkA (powL p qs x n) x) = prodL p qs tkA (powL p qs x (m + n)) x
    rw [← prod_assoc (by omega) hd, pow_add hp hd m n]
end Go.Proofs.YtcocbainookkcaaGreat

/-
  Regular spaces: the library's search for a number, the discriminant, the codes of regular spaces.
  No condition.
-/
namespace Go.Proofs.YtcocbainookkcaaGreat
set_option maxRecDepth 100000
open Go.RowKit

set_option maxHeartbeats 400000 in
set_option maxRecDepth 20000 in
theorem c_index (a : Option Addr) (n cap : Nat) (xs : List Int) (v : Int) (w : World) (hl : n ≤ 4194304) (hx : RdC w a n xs) :
    Calls Tryz.prog 98 #[.slice a n cap, .int .i64 v] w fun e w' => e = .returned (.int .i64 (firstIx (fun i => v == nth xs i) n)) ∧ Ext w w' := by
  have HX := Lib.hid hx
  clear hx
  go_enter Tryz.func98, Tryz.ntmps98
  go_wp2_with (fail)
  go_loopw [5, 8] (fun _ i wr => ∃ k : Nat, k ≤ n ∧ i = .int .i64 k ∧ Hid (∀ j, j < k → (v == nth xs j) = false) ∧ Ext w wr) (fun _ i _ => n - (intOf i).toNat)
  case atStart => exact ⟨0, Nat.zero_le _, rfl, Lib.hid (fun j hj => by omega), Ext.refl _⟩
  case round =>
    obtain ⟨k, hk, rfl, HT, hext⟩ := hrel
    by_cases hlt : k < n
    · obtain ⟨b, off, rfl, hc⟩ := HX.out.2 k hlt
      have hc' := hext.cell hc
      clear hc
      cases hb : (v == nth xs k)
      · have HB := Lib.hid hb
        go_wp2_with (fail)
        go_roundw
        case rel => exact ⟨k + 1, by omega, by go_num, Lib.hid (fun j hj => by
          by_cases hjk : j = k
          · subst hjk; exact HB.out
          · exact HT.out j (by omega)), hext⟩
        case measure => simp [intOf]; omega
      · have HB := Lib.hid hb
        go_wp2_with (fail)
        go_ret
        exact ⟨ret_int (firstIx_hit (f := fun i => v == nth xs i) hlt HB.out HT.out).symm, hext⟩
    · go_wp2_with (fail)
      go_ret
      exact ⟨ret_int (firstIx_none (f := fun i => v == nth xs i) (fun j hj => HT.out j (by omega))).symm, hext⟩

def hasB (xs : List Int) (v : Int) : Bool := (List.range xs.length).any fun i => v == nth xs i
set_option maxHeartbeats 400000 in
theorem c_contains (a : Option Addr) (n cap : Nat) (xs : List Int) (v : Int) (w : World) (hl : n ≤ 4194304) (hx : RdC w a n xs) :
    Calls Tryz.prog 78 #[.slice a n cap, .int .i64 v] w fun e w' => e = .returned (.bool (hasB xs v)) ∧ Ext w w' := by
  have HA := Lib.hid (show decide (0 ≤ firstIx (fun i => v == nth xs i) n) = hasB xs v by rw [firstIx_any]; unfold hasB; rw [hx.1])
  have hbd := firstIx_bd (fun i => v == nth xs i) n
  go_enter Tryz.func78, Tryz.ntmps78
  go_wp2_with (go_at_call 98; refine (c_index _ _ _ _ _ _ hl hx).mono ?_; rintro e w1 ⟨rfl, h1⟩)
  go_ret
  exact ⟨ret_bool HA.out, h1⟩

def regB (qs : List Int) : Bool := !hasB qs 0
set_option maxHeartbeats 400000 in
theorem c_regular (p : Int) (a : Option Addr) (d cap : Nat) (qs : List Int) (w : World) (hl : d ≤ 4194304) (hq : RdC w a d qs) :
    Calls Tryz.prog 42 #[.agg #[.int .i64 p, .slice a d cap]] w fun e w' => e = .returned (.bool (regB qs)) ∧ Ext w w' := by
  go_enter Tryz.func42, Tryz.ntmps42
  go_wp2_with (go_at_call 78; refine (c_contains _ _ _ _ _ _ hl (hq.ext (ext_alloc _ _))).mono ?_; rintro e w1 ⟨rfl, h1⟩)
  go_ret
  exact ⟨rfl, (ext_alloc _ _).trans h1⟩

/-! ### The discriminant -/
def discS (p : Int) (qs : List Int) : Nat → Int
  | 0 => 1
  | k + 1 => discS p qs k * nth qs k % p
theorem discS_bd {p : Int} {qs : List Int} (hp : 3 ≤ p) : ∀ k, 0 ≤ discS p qs k ∧ discS p qs k < p
  | 0 => by simp [discS]; omega
  | k + 1 => ⟨Int.emod_nonneg _ (by omega), Int.emod_lt_of_pos _ (by omega)⟩
theorem mul_zero_of {p : Int} (hp : primeB p = true) {x y : Int} (hx0 : 0 ≤ x) (hx : x < p) (hy0 : 0 ≤ y) (hy : y < p) : x * y % p = 0 ↔ x = 0 ∨ y = 0 := by
  have key : ∀ q : Nat, (q = 3 ∨ q = 5 ∨ q = 7 ∨ q = 11 ∨ q = 13) → ∀ x : Nat, x < q → ∀ y : Nat, y < q → ((x * y) % q = 0 ↔ x = 0 ∨ y = 0) := by
    rintro q (rfl | rfl | rfl | rfl | rfl) <;> decide +kernel
  have hb := prime_bd hp
  obtain ⟨q, rfl⟩ := Int.eq_ofNat_of_zero_le (show 0 ≤ p by omega)
  obtain ⟨x, rfl⟩ := Int.eq_ofNat_of_zero_le hx0
  obtain ⟨y, rfl⟩ := Int.eq_ofNat_of_zero_le hy0
  have := key q (by simp [primeB] at hp; omega) x (by omega) y (by omega)
  rw [show ((x : Int) * (y : Int)) % (q : Int) = ((x * y % q : Nat) : Int) by simp]
  simp only [Int.natCast_eq_zero]
  exact this
theorem discS_zero {p : Int} {qs : List Int} (hp : primeB p = true) (hq : isB p qs = true) : ∀ k, k ≤ qs.length → ((discS p qs k == 0) = (List.range k).any fun i => (0 : Int) == nth qs i)
  | 0, _ => by simp [discS]
  | k + 1, h => by
    have hb := prime_bd hp
    have ih := discS_zero hp hq k (by omega)
    have hk := isB_nth hq (i := k) (by omega)
    have hd := discS_bd (qs := qs) (show 3 ≤ p by omega) k
    rw [List.range_succ, List.any_append, ← ih]
    rw [Bool.eq_iff_iff]
    simp only [discS, beq_iff_eq, Bool.or_eq_true, List.any_cons, List.any_nil, Bool.or_false]
    rw [mul_zero_of hp hd.1 hd.2 hk.1 hk.2]
    constructor
    · rintro (h | h)
      · exact .inl h
      · exact .inr h.symm
    · rintro (h | h)
      · exact .inl h
      · exact .inr h.symm
def discL (p : Int) (qs : List Int) : Int := discS p qs qs.length
theorem disc_reg {p : Int} {qs : List Int} (hp : primeB p = true) (hq : isB p qs = true) : (discL p qs == 0) = !regB qs := by
  rw [discL, discS_zero hp hq _ (Nat.le_refl _), regB, Bool.not_not]; rfl


def codeR (p : Int) (qs : List Int) (rows : List (List Int)) : Int := if codeM p qs rows = 0 then (if regB qs = true then 0 else 5) else codeM p qs rows
theorem codeR_zero {p : Int} {qs : List Int} {rows : List (List Int)} (h : codeR p qs rows = 0) : codeM p qs rows = 0 ∧ regB qs = true := by
  unfold codeR at h
  split at h
  · rename_i hm
    split at h
    · rename_i hr; exact ⟨hm, hr⟩
    · omega
  · rename_i hm; exact absurd h hm


end Go.Proofs.YtcocbainookkcaaGreat

/-
  Powers and inverses of numbers, multiples of lists: walks; the square of the pseudoscalar of a regular space is not 0.
  No condition.
-/
namespace Go.Proofs.YtcocbainookkcaaGreat
set_option maxRecDepth 100000
open Go.RowKit

def powS (p a : Int) : Nat → Int
  | 0 => 1
  | k + 1 => powS p a k * a % p
theorem powS_bd {p a : Int} (hp : 3 ≤ p) : ∀ k, 0 ≤ powS p a k ∧ powS p a k < p
  | 0 => by simp [powS]; omega
  | k + 1 => ⟨Int.emod_nonneg _ (by omega), Int.emod_lt_of_pos _ (by omega)⟩
def invN (p a : Int) : Int := powS p a (p - 2).toNat
theorem invN_bd {p a : Int} (hp : 3 ≤ p) : 0 ≤ invN p a ∧ invN p a < p := powS_bd hp _

def powT (q a : Nat) : Nat → Nat
  | 0 => 1
  | k + 1 => powT q a k * a % q
theorem powT_eq (q a k : Nat) : powS (q : Int) (a : Int) k = (powT q a k : Int) := by
  induction k with
  | zero => rfl
  | succ k ih => simp only [powS, powT]; rw [ih]; simp
theorem inv_spec {p a : Int} (hp : primeB p = true) (h0 : 0 < a) (h1 : a < p) :
    1 ≤ invN p a ∧ a * invN p a % p = 1 ∧ ∀ j : Nat, 1 ≤ j → (j : Int) < invN p a → ¬ a * j % p = 1 := by
  have key : ∀ q : Nat, (q = 3 ∨ q = 5 ∨ q = 7 ∨ q = 11 ∨ q = 13) → ∀ a : Nat, a < q → 0 < a → 1 ≤ powT q a (q - 2) ∧ a * powT q a (q - 2) % q = 1 ∧ ∀ j : Nat, j < powT q a (q - 2) → 1 ≤ j → ¬ a * j % q = 1 := by
    rintro q (rfl | rfl | rfl | rfl | rfl) <;> decide +kernel
  have hb := prime_bd hp
  obtain ⟨q, rfl⟩ := Int.eq_ofNat_of_zero_le (show 0 ≤ p by omega)
  obtain ⟨a, rfl⟩ := Int.eq_ofNat_of_zero_le (show 0 ≤ a by omega)
  obtain ⟨k1, k2, k3⟩ := key q (by simp [primeB] at hp; omega) a (by omega) (by omega)
  have e : invN (q : Int) (a : Int) = (powT q a (q - 2) : Int) := by
    unfold invN
    rw [show ((q : Int) - 2).toNat = q - 2 by omega, powT_eq]
  rw [e]
  refine ⟨by omega, ?_, fun j hj1 hj2 hj => ?_⟩
  · rw [show ((a : Int) * (powT q a (q - 2) : Int)) % (q : Int) = ((a * powT q a (q - 2) % q : Nat) : Int) by simp, k2]; rfl
  · refine k3 j (by omega) hj1 ?_
    rw [show ((a : Int) * (j : Int)) % (q : Int) = ((a * j % q : Nat) : Int) by simp] at hj
    omega

set_option maxHeartbeats 400000 in
theorem c_pow (p a : Int) (k : Nat) (w : World) (hp1 : 3 ≤ p) (hp2 : p ≤ 1000) (ha : 0 ≤ a) (ha2 : a < p) (hk : k ≤ 1000) :
    Calls Tryz.prog 96 #[.int .i64 p, .int .i64 a, .int .i64 k] w fun e w' => e = .returned (.int .i64 (powS p a k)) ∧ Ext w w' := by
  go_enter Tryz.func96, Tryz.ntmps96
  go_wp2_with (fail)
  go_loopw [7, 9] (fun v i wr => ∃ j : Nat, j ≤ k ∧ i = .int .i64 j ∧ v = .int .i64 (powS p a j) ∧ Ext w wr) (fun _ i _ => k - (intOf i).toNat)
  case atStart => exact ⟨0, Nat.zero_le _, rfl, rfl, Ext.refl _⟩
  case round =>
    obtain ⟨j, hj, rfl, rfl, hext⟩ := hrel
    by_cases hlt : j < k
    · have hb := powS_bd (a := a) hp1 j
      obtain ⟨D, hD⟩ : ∃ D, D = powS p a j := ⟨_, rfl⟩
      have HDk := Lib.hid (show D * a % p = powS p a (j + 1) by rw [hD]; rfl)
      rw [← hD] at hb ⊢
      clear hD
      obtain ⟨hm1, hm2⟩ := mul_bd hp2 hb.1 hb.2 ha ha2
      have hw1 : IntKind.i64.wrap (D * a) = D * a := IntWalk.i64_in _ (by omega)
      go_wp2_with (go_at_call 81; refine (c_num _ _ _ (by omega) hp2).mono ?_; rintro e w2 ⟨rfl, g2⟩; rw [HDk.out])
      go_roundw
      case rel => exact ⟨j + 1, by omega, by go_num, rfl, hext.trans g2⟩
      case measure => simp [intOf]; omega
    · go_wp2_with (fail)
      go_ret
      obtain rfl : j = k := by omega
      exact ⟨rfl, hext⟩
set_option maxHeartbeats 400000 in
theorem c_inv (p a : Int) (w : World) (hp1 : 3 ≤ p) (hp2 : p ≤ 1000) (ha : 0 ≤ a) (ha2 : a < p) :
    Calls Tryz.prog 72 #[.int .i64 p, .int .i64 a] w fun e w' => e = .returned (.int .i64 (invN p a)) ∧ Ext w w' := by
  obtain ⟨k, hk⟩ := Int.eq_ofNat_of_zero_le (show 0 ≤ p - 2 by omega)
  have HI := Lib.hid (show powS p a k = invN p a by unfold invN; rw [hk]; rfl)
  have hw1 : IntKind.i64.wrap (p - 2) = (k : Int) := by rw [IntWalk.i64_in _ (by omega)]; exact hk
  have hkl : k ≤ 1000 := by omega
  have hk2 : p - 2 = (k : Int) := hk
  clear hk
  go_enter Tryz.func72, Tryz.ntmps72
  go_wp2_with (go_at_call 96; refine (c_pow _ _ _ _ hp1 hp2 ha ha2 hkl).mono ?_; rintro e w2 ⟨rfl, g2⟩; rw [HI.out])
  go_ret
  exact ⟨rfl, g2⟩

set_option maxHeartbeats 400000 in
theorem s_inv (p a : Int) (w : World) (hpr : primeB p = true) (ha : 0 < a) (ha2 : a < p) :
    Calls Tryz.prog 56 #[.int .i64 p, .int .i64 a] w fun e w' => e = .returned (.int .i64 (invN p a)) ∧ Ext w w' := by
  have hpb := prime_bd hpr
  have hpz : ¬ p = 0 := by omega
  obtain ⟨hi1, hi2, hi3⟩ := inv_spec hpr ha ha2
  have hib := invN_bd (a := a) (show 3 ≤ p by omega)
  obtain ⟨I, hI⟩ := Int.eq_ofNat_of_zero_le hib.1
  rw [hI] at hi1 hi2 hi3 hib ⊢
  have H2 := Lib.hid hi2
  have H3 := Lib.hid hi3
  clear hi2 hi3 hI hpr
  go_enter Tryz.func56, Tryz.ntmps56
  go_wp2_with (fail)
  go_loopw [5] (fun v wr => ∃ j : Nat, 1 ≤ j ∧ j ≤ I ∧ v = .int .i64 j ∧ Ext w wr) (fun v _ => I - (intOf v).toNat)
  case atStart => exact ⟨1, Nat.le_refl _, by omega, rfl, Ext.refl _⟩
  case round =>
    obtain ⟨j, hj1, hj, rfl, hext⟩ := hrel
    obtain ⟨hm1, hm2⟩ := mul_bd (show p ≤ 1000 by omega) (show 0 ≤ a by omega) ha2 (show 0 ≤ (j : Int) by omega) (show (j : Int) < p by omega)
    obtain ⟨R, hR⟩ : ∃ R, R = a * (j : Int) % p := ⟨_, rfl⟩
    have hw1 : IntKind.i64.wrap (a * (j : Int)) = a * (j : Int) := IntWalk.i64_in _ (by omega)
    have hw2 : (a * (j : Int)).tmod p = R := by rw [hR]; exact Int.tmod_eq_emod_of_nonneg hm1
    by_cases hlt : j < I
    · have hne := H3.out j hj1 (by omega)
      have hb : (R != 1) = true := by rw [hR]; simpa using hne
      clear hR hne
      go_wp2_with (fail)
      go_roundw
      case rel => exact ⟨j + 1, by omega, by omega, by go_num, hext⟩
      case measure => simp [intOf]; omega
    · obtain rfl : j = I := by omega
      have hb : (R != 1) = false := by rw [hR, H2.out]; rfl
      clear hR
      go_wp2_with (fail)
      go_ret
      exact ⟨rfl, hext⟩

/-! ### Multiples of lists -/
def scaleN (p : Int) (x : List Int) (k : Int) (i : Nat) : Int := (nth x i * k) % p
def scaleL (p : Int) (x : List Int) (k : Int) (n : Nat) : List Int := (List.range n).map (scaleN p x k)
theorem scaleL_len (p : Int) (x : List Int) (k : Int) (n : Nat) : (scaleL p x k n).length = n := by simp [scaleL]
theorem scaleL_succ (p : Int) (x : List Int) (k : Int) (n : Nat) : scaleL p x k (n + 1) = scaleL p x k n ++ [scaleN p x k n] := by simp [scaleL, List.range_succ]
theorem scaleL_nth {p : Int} {x : List Int} {k : Int} {n i : Nat} (h : i < n) : nth (scaleL p x k n) i = scaleN p x k i := by
  unfold scaleL; rw [nth_map (by simpa using h)]; simp
theorem scale_good {p : Int} {x : List Int} {k : Int} {n : Nat} (hp : 1 ≤ p) : Good p n (scaleL p x k n) := ⟨scaleL_len _ _ _ _, fun i hi => by
  rw [scaleL_nth hi]; exact ⟨Int.emod_nonneg _ (by omega), Int.emod_lt_of_pos _ (by omega)⟩⟩

set_option maxHeartbeats 1000000 in
theorem c_scaled (p : Int) (ax : Option Addr) (n cx : Nat) (x : List Int) (k : Int) (w : World) (hp1 : 3 ≤ p) (hp2 : p ≤ 1000) (hk : -1000 ≤ k ∧ k ≤ 1000) (hn : n ≤ 4194303) (hx : RdC w ax n x) (hgx : Good p n x) :
    Calls Tryz.prog 71 #[.int .i64 p, .slice ax n cx, .int .i64 k] w fun e w' => ∃ g rc, e = .returned (.slice (some ⟨g, 0, none⟩) n rc) ∧ OwnC w.heap.size w' (some ⟨g, 0, none⟩) n rc (scaleL p x k n) ∧ Ext w w' := by
  have HX := Lib.hid hx
  have HGX := Lib.hid hgx
  clear hx hgx
  go_enter Tryz.func71, Tryz.ntmps71
  go_wp2_with (fail)
  go_loopw [7, 13] (fun v i wr => ∃ (j g rc : Nat), j ≤ n ∧ i = .int .i64 j ∧ v = .slice (some ⟨g, 0, none⟩) j rc ∧ OwnC w.heap.size wr (some ⟨g, 0, none⟩) j rc (scaleL p x k j) ∧ Ext w wr) (fun _ i _ => n - (intOf i).toNat)
  case atStart => exact ⟨0, _, _, Nat.zero_le _, rfl, rfl, own_empty w, ext_alloc _ _⟩
  case round =>
    obtain ⟨j, g, rc, hj, rfl, rfl, hown, hext⟩ := hrel
    have HOwn := Lib.hid hown
    have HExt := Lib.hid hext
    clear hown hext
    by_cases hlt : j < n
    · obtain ⟨bx, ox, rfl, hcx⟩ := HX.out.2 j hlt
      have hcx' := HExt.out.cell hcx
      have hbx := HGX.out.2 j hlt
      have hkb := kmul_bd hk hbx.1 (show nth x j ≤ 1000 by omega)
      rw [Int.mul_comm] at hkb
      have hw1 : IntKind.i64.wrap (nth x j * k) = nth x j * k := IntWalk.i64_in _ (by omega)
      have HP := Lib.hid (show (nth x j * k) % p = scaleN p x k j from rfl)
      clear hcx
      go_wp2_with (first | (go_at_call 81; refine (c_num _ _ _ (by omega) hp2).mono ?_; rintro e w2 ⟨rfl, g2⟩; rw [HP.out]; have G2 := Lib.hid g2; clear g2) | (at_builtin; refine wpList_push rfl (.tmp 17) (.tmp 23) rfl rfl rfl (v := scaleN p x k j) (HOwn.out.ext (G2.out.trans (ext_alloc _ _))) ?hc ?hn ?hB ?hk))
      case hc => simp
      case hn => omega
      case hB => have hz := (HExt.out.trans G2.out).size'; simp; omega
      case hk =>
        intro g' cap' w3 ho3 hg3 he3
        have HO3 := Lib.hid ho3
        have HE3 := Lib.hid (he3 w (Nat.le_refl _) ((HExt.out.trans G2.out).alloc _))
        clear ho3 hg3 he3
        go_wp2_with (fail)
        go_roundw
        case rel => exact ⟨j + 1, g', cap', by omega, by go_num, rfl, by rw [scaleL_succ]; exact HO3.out, HE3.out⟩
        case measure => simp [intOf]; omega
    · go_wp2_with (fail)
      go_ret
      obtain rfl : j = n := by omega
      exact ⟨g, rc, rfl, HOwn.out, HExt.out⟩

theorem scale_full {p k : Int} {d : Nat} (h0 : 0 ≤ k) (h1 : k < p) : scaleL p (fullL d) k (2 ^ d) = topL d k := by
  have hN := pow_pos' d
  refine ext_nth (by rw [scaleL_len]; simp [topL]) fun i hi => ?_
  rw [scaleL_len] at hi
  rw [scaleL_nth hi]
  unfold scaleN fullL topL
  rw [bladeL_nth (by omega) hi, nth_set (by simp; omega), nth_replicate hi]
  split
  · rw [Int.one_mul, Int.emod_eq_of_lt h0 h1]
  · simp

/-! ### The square of the pseudoscalar -/
theorem facS_full {p : Int} {qs : List Int} {d : Nat} : ∀ k, k ≤ d → (facS p qs (2 ^ d - 1) (2 ^ d - 1) k).2 = discS p qs k
  | 0, _ => rfl
  | k + 1, hk => by
    have ht : (2 ^ d - 1).testBit k = true := by rw [Nat.testBit_two_pow_sub_one]; simp; omega
    rw [facS_two ht ht]
    simp only [discS]
    rw [facS_full k (by omega)]
theorem sqFull_eq {p : Int} {qs : List Int} (hp : 3 ≤ p) (hd : qs.length ≤ 6) : sqFull p qs = fac p qs (2 ^ qs.length - 1) (2 ^ qs.length - 1) := by
  have hN := pow_pos' qs.length
  have h64 := pow_le64 hd
  unfold sqFull
  rw [prod_nth1 (by omega) (by omega), sumN_single (k := 2 ^ qs.length - 1) (by omega) (fun i hi hne => by
    have hz : nth (fullL qs.length) i = 0 := by
      unfold fullL
      rw [bladeL_nth (by omega) hi, if_neg (fun h => hne h.symm)]
    rw [hz]; simp)]
  rw [Nat.xor_zero]
  unfold fullL
  rw [bladeL_nth (by omega) (by omega), if_pos rfl]
  simp only [tkA, if_true, Int.one_mul]
  have hb := fac_bd (p := p) (qs := qs) (a := 2 ^ qs.length - 1) (b := 2 ^ qs.length - 1) hp (by omega)
  exact Int.emod_eq_of_lt hb.1 hb.2
theorem sqFull_ne {p : Int} {qs : List Int} (hp : primeB p = true) (hq : isB p qs = true) (hd : qs.length ≤ 6) (hr : regB qs = true) : sqFull p qs ≠ 0 := by
  have hpb := prime_bd hp
  have hN := pow_pos' qs.length
  rw [sqFull_eq (by omega) hd]
  have hdz := disc_reg hp hq
  rw [hr] at hdz
  have hdne : discS p qs qs.length ≠ 0 := by simpa [discL] using hdz
  have hdb := discS_bd (p := p) (qs := qs) (by omega) qs.length
  unfold fac sgn
  rw [facS_full qs.length (Nat.le_refl _)]
  split
  · intro h
    obtain ⟨c, hc⟩ := Int.dvd_of_emod_eq_zero h
    have hc0 : c = 0 := by
      rcases Int.lt_trichotomy c 0 with h | h | h
      · have : p * c ≤ p * -1 := Int.mul_le_mul_of_nonneg_left (by omega) (by omega)
        omega
      · exact h
      · have : p * 1 ≤ p * c := Int.mul_le_mul_of_nonneg_left (by omega) (by omega)
        omega
    rw [hc0] at hc; omega
  · exact hdne
def dualL (p : Int) (qs x : List Int) : List Int := prodL p qs tkL x (topL qs.length (invN p (sqFull p qs)))
end Go.Proofs.YtcocbainookkcaaGreat

/-
  Sums and multiples of elements in the reference: contracts.
  No condition.
-/
namespace Go.Proofs.YtcocbainookkcaaGreat
set_option maxRecDepth 100000
open Go.RowKit

set_option maxHeartbeats 400000 in
theorem s_mod (p n : Int) (w : World) (h1 : 1 ≤ p) (h2 : p ≤ 1000) :
    Calls Tryz.prog 30 #[.int .i64 p, .int .i64 n] w fun e w' => e = .returned (.int .i64 (n % p)) ∧ Ext w w' := by
  have HE := Lib.hid (num_eq (n := n) h1 h2)
  have hpz : ¬ p = 0 := by omega
  go_enter Tryz.func30, Tryz.ntmps30
  go_wp2
  go_ret
  exact ⟨ret_int HE.out, Ext.refl _⟩
set_option maxHeartbeats 1000000 in
theorem s_scale11 (p : Int) (ax : Option Addr) (n cx : Nat) (x : List Int) (k : Int) (w : World) (hp1 : 3 ≤ p) (hp2 : p ≤ 1000) (hk : -1000 ≤ k ∧ k ≤ 1000) (hn : n ≤ 4194303) (hx : RdC w ax n x) (hgx : Good p n x) :
    Calls Tryz.prog 58 #[.int .i64 p, .int .i64 k, .slice ax n cx] w fun e w' => ∃ g rc, e = .returned (.slice (some ⟨g, 0, none⟩) n rc) ∧ OwnC w.heap.size w' (some ⟨g, 0, none⟩) n rc (scaleL p x k n) ∧ Ext w w' := by
  have HX := Lib.hid hx
  have HGX := Lib.hid hgx
  clear hx hgx
  go_enter Tryz.func58, Tryz.ntmps58
  go_wp2_with (fail)
  go_loopw [7, 8] (fun v i wr => ∃ (j g rc : Nat), j ≤ n ∧ i = .int .i64 j ∧ v = .slice (some ⟨g, 0, none⟩) j rc ∧ OwnC w.heap.size wr (some ⟨g, 0, none⟩) j rc (scaleL p x k j) ∧ Ext w wr) (fun _ i _ => n - (intOf i).toNat)
  case atStart => exact ⟨0, _, _, Nat.zero_le _, rfl, rfl, own_empty w, ext_alloc _ _⟩
  case round =>
    obtain ⟨j, g, rc, hj, rfl, rfl, hown, hext⟩ := hrel
    have HOwn := Lib.hid hown
    have HExt := Lib.hid hext
    clear hown hext
    by_cases hlt : j < n
    · obtain ⟨bx, ox, rfl, hcx⟩ := HX.out.2 j hlt
      have hcx' := HExt.out.cell hcx
      have hbx := HGX.out.2 j hlt
      have hkb := kmul_bd hk hbx.1 (show nth x j ≤ 1000 by omega)
      have hw1 : IntKind.i64.wrap (k * nth x j) = k * nth x j := IntWalk.i64_in _ (by omega)
      have HP := Lib.hid (show (k * nth x j) % p = scaleN p x k j by unfold scaleN; rw [Int.mul_comm])
      clear hcx
      go_wp2_with (first | (go_at_call 30; refine (s_mod _ _ _ (by omega) hp2).mono ?_; rintro e w2 ⟨rfl, g2⟩; rw [HP.out]; have G2 := Lib.hid g2; clear g2) | (at_builtin; refine wpList_push rfl (.tmp 16) (.tmp 25) rfl rfl rfl (v := scaleN p x k j) (HOwn.out.ext (G2.out.trans (ext_alloc _ _))) ?hc ?hn ?hB ?hk))
      case hc => simp
      case hn => omega
      case hB => have hz := (HExt.out.trans G2.out).size'; simp; omega
      case hk =>
        intro g' cap' w3 ho3 hg3 he3
        have HO3 := Lib.hid ho3
        have HE3 := Lib.hid (he3 w (Nat.le_refl _) ((HExt.out.trans G2.out).alloc _))
        clear ho3 hg3 he3
        go_wp2_with (fail)
        go_roundw
        case rel => exact ⟨j + 1, g', cap', by omega, by go_num, rfl, by rw [scaleL_succ]; exact HO3.out, HE3.out⟩
        case measure => simp [intOf]; omega
    · go_wp2_with (fail)
      go_ret
      obtain rfl : j = n := by omega
      exact ⟨g, rc, rfl, HOwn.out, HExt.out⟩
set_option maxHeartbeats 1000000 in
theorem s_add11 (p : Int) (ax ay : Option Addr) (n cx cy : Nat) (x y : List Int) (w : World) (hp1 : 3 ≤ p) (hp2 : p ≤ 1000) (hn : n ≤ 4194303) (hx : RdC w ax n x) (hy : RdC w ay n y) (hgx : ∀ i, i < n → 0 ≤ nth x i ∧ nth x i ≤ 1000) (hgy : Good p n y) :
    Calls Tryz.prog 57 #[.int .i64 p, .slice ax n cx, .slice ay n cy] w fun e w' => ∃ g rc, e = .returned (.slice (some ⟨g, 0, none⟩) n rc) ∧ OwnC w.heap.size w' (some ⟨g, 0, none⟩) n rc (plusL p x y 1 n) ∧ Ext w w' := by
  have HX := Lib.hid hx
  have HY := Lib.hid hy
  have HGX := Lib.hid hgx
  have HGY := Lib.hid hgy
  clear hx hy hgx hgy
  go_enter Tryz.func57, Tryz.ntmps57
  go_wp2_with (fail)
  go_loopw [7, 8] (fun v i wr => ∃ (j g rc : Nat), j ≤ n ∧ i = .int .i64 j ∧ v = .slice (some ⟨g, 0, none⟩) j rc ∧ OwnC w.heap.size wr (some ⟨g, 0, none⟩) j rc (plusL p x y 1 j) ∧ Ext w wr) (fun _ i _ => n - (intOf i).toNat)
  case atStart => exact ⟨0, _, _, Nat.zero_le _, rfl, rfl, own_empty w, ext_alloc _ _⟩
  case round =>
    obtain ⟨j, g, rc, hj, rfl, rfl, hown, hext⟩ := hrel
    have HOwn := Lib.hid hown
    have HExt := Lib.hid hext
    clear hown hext
    by_cases hlt : j < n
    · obtain ⟨bx, ox, rfl, hcx⟩ := HX.out.2 j hlt
      obtain ⟨by', oy, rfl, hcy⟩ := HY.out.2 j hlt
      have Hcx := Lib.hid ((HExt.out.trans (ext_drew _)).cell hcx)
      have Hcy := Lib.hid ((HExt.out.trans (ext_drew _)).cell hcy)
      have hbx := HGX.out j hlt
      have hby := HGY.out.2 j hlt
      have hw2 : IntKind.i64.wrap (nth x j + nth y j) = nth x j + nth y j := IntWalk.i64_in _ (by omega)
      have HP := Lib.hid (show (nth x j + nth y j) % p = plusN p x y 1 j by unfold plusN; rw [Int.one_mul])
      clear hcx hcy
      go_wp2_with (fail)
      refine wp_region_lex_tail 13 [(11, .val (.int .i64 (plusN p x y 1 j))), (12, .one (plusN p x y 1 j))] (by kernel_rfl) (by kernel_rfl) ?_
      simp only [List.take, List.drop]
      repeat' first | (refine LexW.pure (v := ?_) rfl rfl (fun w1 he => ?_) ?_; rotate_left; ( have e3 := he.cell Hcx.out; have e4 := he.cell Hcy.out; go_simp; rfl); simp only [Act.put, List.setIfInBounds_toArray, List.set_cons_zero, List.set_cons_succ]) | (refine LexW.call (f := ?_) (args := ?_) rfl rfl (fun w1 => ?_) (fun w1 he hdep => ?_) ?_; rotate_left 2; (go_simp; refine ⟨?_, ?_⟩ <;> rfl); ( rw [← HP.out]; exact s_mod _ _ _ (by omega) hp2); simp only [Act.put, List.setIfInBounds_toArray, List.set_cons_zero, List.set_cons_succ]) | ((refine LexW.rel rfl rfl (fun w1 he hdep => ?_) (fun v hv => ?_); ( exact ⟨.slice (some ⟨w1.heap.size, 0, none⟩) 1 1, w1.alloc (.cells #[.int .i64 (plusN p x y 1 j)] 2), (by go_simp), ext_alloc _ _, _, rfl, (by simp)⟩); simp only [Act.put, List.setIfInBounds_toArray, List.set_cons_zero, List.set_cons_succ]); obtain ⟨_, g9, rfl, _⟩ := hv)
      refine LexW.nil (fun w2 he hkn => ?_)
      obtain ⟨_, q9, r9⟩ : (SPred.one (plusN p x y 1 j)).holds (.slice (some ⟨g9, 0, none⟩) 1 1) w2 := hkn (12, _) (by simp)
      cases q9
      have G2 := Lib.hid ((ext_drew _).trans he)
      have R9 := Lib.hid r9
      clear he hkn r9
      go_wp2_with (at_builtin; refine wpList_push rfl (.tmp 16) (.tmp 28) rfl rfl rfl (v := plusN p x y 1 j) (HOwn.out.ext G2.out) ?hc ?hn ?hB ?hk)
      case hc => exact R9.out
      case hn => omega
      case hB => exact (HExt.out.trans G2.out).size'
      case hk =>
        intro g' cap' w3 ho3 hg3 he3
        have HO3 := Lib.hid ho3
        have HE3 := Lib.hid (he3 w (Nat.le_refl _) (HExt.out.trans G2.out))
        clear ho3 hg3 he3
        go_wp2_with (fail)
        go_roundw
        case rel => exact ⟨j + 1, g', cap', by omega, by go_num, rfl, by rw [plusL_succ]; exact HO3.out, HE3.out⟩
        case measure => simp [intOf]; omega
    · go_wp2_with (fail)
      go_ret
      obtain rfl : j = n := by omega
      exact ⟨g, rc, rfl, HOwn.out, HExt.out⟩
theorem scale_plus {p : Int} {x y : List Int} {n : Nat} : plusL p x (scaleL p y (p - 1) n) 1 n = plusL p x y (-1) n := by
  unfold plusL
  refine List.map_congr_left fun i hi => ?_
  have hi' : i < n := List.mem_range.1 hi
  unfold plusN
  rw [scaleL_nth hi', scaleN, Int.one_mul, Int.add_emod_emod, show nth y i * (p - 1) = -1 * nth y i + p * nth y i by rw [Int.mul_sub, Int.mul_comm p]; omega, ← Int.add_assoc, Int.add_mul_emod_self_left]
set_option maxHeartbeats 400000 in
theorem s_minus11 (p : Int) (ax ay : Option Addr) (n cx cy : Nat) (x y : List Int) (w : World) (hp1 : 3 ≤ p) (hp2 : p ≤ 1000) (hn : n ≤ 4194303) (hx : RdC w ax n x) (hy : RdC w ay n y) (hgx : ∀ i, i < n → 0 ≤ nth x i ∧ nth x i ≤ 1000) (hgy : Good p n y) :
    Calls Tryz.prog 103 #[.int .i64 p, .slice ax n cx, .slice ay n cy] w fun e w' => ∃ g rc, e = .returned (.slice (some ⟨g, 0, none⟩) n rc) ∧ OwnC w.heap.size w' (some ⟨g, 0, none⟩) n rc (plusL p x y (-1) n) ∧ Ext w w' := by
  have hw1 : IntKind.i64.wrap (p - 1) = p - 1 := IntWalk.i64_in _ (by omega)
  have HX := Lib.hid hx
  have HY := Lib.hid hy
  have HGX := Lib.hid hgx
  have HGY := Lib.hid hgy
  clear hx hy hgx hgy
  go_enter Tryz.func103, Tryz.ntmps103
  go_wp2_with (first | (go_at_call 58; refine (s_scale11 p ay n cy y (p - 1) _ hp1 hp2 (by omega) hn HY.out HGY.out).mono ?_; rintro e w1 ⟨g1, r1, rfl, ho1, x1⟩; have HO1 := Lib.hid ho1; have X1 := Lib.hid x1; clear ho1 x1) | (go_at_call 57; refine (s_add11 p ax _ n cx _ x (scaleL p y (p - 1) n) _ hp1 hp2 hn (HX.out.ext X1.out) HO1.out.rd HGX.out (scale_good (by omega))).mono ?_; rintro e w2 ⟨g2, r2, rfl, ho2, x2⟩; rw [scale_plus] at ho2; have HO2 := Lib.hid ho2; have X2 := Lib.hid x2; clear ho2 x2))
  go_ret
  exact ⟨g2, r2, rfl, HO2.out.mono X1.out.size, X1.out.trans X2.out⟩
end Go.Proofs.YtcocbainookkcaaGreat

/-
  Vectors as multivectors; the codes of spaces and vectors.
  No condition.
-/
namespace Go.Proofs.YtcocbainookkcaaGreat
set_option maxRecDepth 100000
open Go.RowKit

def vecS (N : Nat) (v : List Int) : Nat → List Int
  | 0 => List.replicate N 0
  | k + 1 => (vecS N v k).set (2 ^ k) (nth v k)
def vecL (N : Nat) (v : List Int) : List Int := vecS N v v.length
theorem vecS_good {p : Int} {N n : Nat} {v : List Int} (hp : 1 ≤ p) (hv : Good p n v) : ∀ k, k ≤ n → Good p N (vecS N v k)
  | 0, _ => good_zero hp
  | k + 1, hk => good_set (vecS_good hp hv k (by omega)) (hv.2 k (by omega)).1 (hv.2 k (by omega)).2
theorem vec_good {p : Int} {N n : Nat} {v : List Int} (hp : 1 ≤ p) (hv : Good p n v) : Good p N (vecL N v) := vecS_good hp hv _ (by rw [hv.1]; exact Nat.le_refl _)

set_option maxHeartbeats 1000000 in
theorem c_vector {N d : Nat} (hN : N = 2 ^ d) (p : Int) (a : Option Addr) (cap : Nat) (av : Option Addr) (cv : Nat) (v : List Int) (w : World) (hd : d ≤ 6) (hv : RdC w av d v) :
    Calls Tryz.prog 66 #[.agg #[.int .i64 p, .slice a d cap], .slice av d cv] w fun e w' => ∃ g, e = .returned (.slice (some ⟨g, 0, none⟩) N N) ∧ OwnC w.heap.size w' (some ⟨g, 0, none⟩) N N (vecL N v) ∧ Ext w w' := by
  have HN := Lib.hid hN
  have HV := Lib.hid hv
  have HL := Lib.hid (show vecL N v = vecS N v d by unfold vecL; rw [hv.1])
  clear hN hv
  obtain ⟨W, hW⟩ : ∃ W, W = w.alloc (.cells #[.int .i64 p, .slice a d cap] 26) := ⟨_, rfl⟩
  have gW : Ext w W := by rw [hW]; exact ext_alloc _ _
  have hs0 : W.cell? ⟨w.heap.size, 0, none⟩ = some (.int .i64 p) := by rw [hW]; simp
  have hs1 : W.cell? ⟨w.heap.size, 1, none⟩ = some (.slice a d cap) := by rw [hW]; simp
  have HS0 := Lib.hid (hs0)
  have HS1 := Lib.hid (hs1)
  have GW := Lib.hid (gW)
  have HW := Lib.hid hW
  clear hs0 hs1 gW hW
  go_enter Tryz.func66, Tryz.ntmps66
  go_wp2_with (fail)
  rw [← HW.out]
  refine (c_nothingN HN.out p a cap W hd).mono ?_
  rintro e w1 ⟨g, rfl, ho, g1⟩
  have HO := Lib.hid ho
  have G1 := Lib.hid g1
  have hg := ho.base_le
  clear ho g1
  go_wp2_with (fail)
  go_loopw [12] (fun i wr => ∃ k : Nat, k ≤ d ∧ i = .int .i64 k ∧ OwnC W.heap.size wr (some ⟨g, 0, none⟩) N N (vecS N v k) ∧ Ext W wr) (fun i _ => d - (intOf i).toNat)
  case atStart => exact ⟨0, Nat.zero_le _, rfl, HO.out, G1.out⟩
  case round =>
    obtain ⟨k, hk, rfl, hown, hext⟩ := hrel
    have HOwn := Lib.hid hown
    have HExt := Lib.hid hext
    clear hown hext
    by_cases hlt : k < d
    · obtain ⟨b, off, rfl, hc⟩ := HV.out.2 k hlt
      have hc' := (GW.out.trans HExt.out).cell hc
      have hpi : IntKind.i64.wrap (2 ^ k) = ((2 ^ k : Nat) : Int) := pow_wrapI (by omega)
      have hpw : wrap64 (2 ^ k) = ((2 ^ k : Nat) : Int) := pow_wrap (by omega)
      have hMN : 2 ^ k < N := by rw [HN.out]; exact Nat.pow_lt_pow_right (by omega) hlt
      obtain ⟨M, hM⟩ : ∃ M, M = 2 ^ k := ⟨_, rfl⟩
      rw [← hM] at hpi hpw hMN
      have HM := Lib.hid hM
      have ec := HOwn.out.cell hMN
      have ef := HOwn.out.frozen M
      clear hc hM
      go_wp2_with (fail)
      go_roundw
      case rel => exact ⟨k + 1, by omega, by go_num, by unfold vecS; rw [← HM.out]; exact HOwn.out.store hMN _, HExt.out.setCell hg.1 _⟩
      case measure => simp [intOf]; omega
    · go_wp2_with (fail)
      go_ret
      obtain rfl : k = d := by omega
      exact ⟨g, rfl, by rw [HL.out]; exact HOwn.out.mono GW.out.size, GW.out.trans HExt.out⟩
set_option maxHeartbeats 1000000 in
theorem s_vector {N d : Nat} (hN : N = 2 ^ d) (p : Int) (a : Option Addr) (cap : Nat) (av : Option Addr) (cv : Nat) (v : List Int) (w : World) (hd : d ≤ 6) (hv : RdC w av d v) :
    Calls Tryz.prog 35 #[.agg #[.int .i64 p, .slice a d cap], .slice av d cv] w fun e w' => ∃ g, e = .returned (.slice (some ⟨g, 0, none⟩) N N) ∧ OwnC w.heap.size w' (some ⟨g, 0, none⟩) N N (vecL N v) ∧ Ext w w' := by
  have HN := Lib.hid hN
  have HV := Lib.hid hv
  have HL := Lib.hid (show vecL N v = vecS N v d by unfold vecL; rw [hv.1])
  clear hN hv
  obtain ⟨W, hW⟩ : ∃ W, W = w.alloc (.cells #[.int .i64 p, .slice a d cap] 26) := ⟨_, rfl⟩
  have gW : Ext w W := by rw [hW]; exact ext_alloc _ _
  have hs0 : W.cell? ⟨w.heap.size, 0, none⟩ = some (.int .i64 p) := by rw [hW]; simp
  have hs1 : W.cell? ⟨w.heap.size, 1, none⟩ = some (.slice a d cap) := by rw [hW]; simp
  have HS0 := Lib.hid (hs0)
  have HS1 := Lib.hid (hs1)
  have GW := Lib.hid (gW)
  have HW := Lib.hid hW
  clear hs0 hs1 gW hW
  go_enter Tryz.func35, Tryz.ntmps35
  go_wp2_with (fail)
  rw [← HW.out]
  refine (s_zeroN HN.out p a cap W hd).mono ?_
  rintro e w1 ⟨g, rfl, ho, g1⟩
  have HO := Lib.hid ho
  have G1 := Lib.hid g1
  have hg := ho.base_le
  clear ho g1
  go_wp2_with (fail)
  go_loopw [6] (fun i wr => ∃ k : Nat, k ≤ d ∧ i = .int .i64 k ∧ OwnC W.heap.size wr (some ⟨g, 0, none⟩) N N (vecS N v k) ∧ Ext W wr) (fun i _ => d - (intOf i).toNat)
  case atStart => exact ⟨0, Nat.zero_le _, rfl, HO.out, G1.out⟩
  case round =>
    obtain ⟨k, hk, rfl, hown, hext⟩ := hrel
    have HOwn := Lib.hid hown
    have HExt := Lib.hid hext
    clear hown hext
    by_cases hlt : k < d
    · obtain ⟨b, off, rfl, hc⟩ := HV.out.2 k hlt
      have hc' := (GW.out.trans HExt.out).cell hc
      have hpi : IntKind.i64.wrap (2 ^ k) = ((2 ^ k : Nat) : Int) := pow_wrapI (by omega)
      have hpw : wrap64 (2 ^ k) = ((2 ^ k : Nat) : Int) := pow_wrap (by omega)
      have hcv := conv_u k (by omega)
      have hMN : 2 ^ k < N := by rw [HN.out]; exact Nat.pow_lt_pow_right (by omega) hlt
      obtain ⟨M, hM⟩ : ∃ M, M = 2 ^ k := ⟨_, rfl⟩
      rw [← hM] at hpi hpw hMN
      have HM := Lib.hid hM
      have ec := HOwn.out.cell hMN
      have ef := HOwn.out.frozen M
      clear hc hM
      go_wp2_with (fail)
      go_roundw
      case rel => exact ⟨k + 1, by omega, by go_num, by unfold vecS; rw [← HM.out]; exact HOwn.out.store hMN _, HExt.out.setCell hg.1 _⟩
      case measure => simp [intOf]; omega
    · go_wp2_with (fail)
      go_ret
      obtain rfl : k = d := by omega
      exact ⟨g, rfl, by rw [HL.out]; exact HOwn.out.mono GW.out.size, GW.out.trans HExt.out⟩

/-! ### Codes of spaces and vectors -/
def vecB (p : Int) (d : Nat) (v : List Int) : Bool := decide (v.length = d) && isB p v
def codeV (p : Int) (qs : List Int) (rows : List (List Int)) : Int := if spaceB p qs then (if rows.all (vecB p qs.length) then 0 else 2) else 1
theorem vec_of {p : Int} {d : Nat} {v : List Int} (h : vecB p d v = true) : v.length = d ∧ isB p v = true := by
  simpa [vecB] using h
set_option maxHeartbeats 400000 in
theorem c_isVector (p : Int) (a : Option Addr) (d cap : Nat) (ax : Option Addr) (n cx : Nat) (xs : List Int) (w : World) (hp1 : 1 ≤ p) (hp2 : p ≤ 1000) (hl : n ≤ 4194304) (hx : RdC w ax n xs) :
    Calls Tryz.prog 95 #[.agg #[.int .i64 p, .slice a d cap], .slice ax n cx] w fun e w' => e = .returned (.bool (vecB p d xs)) ∧ Ext w w' := by
  by_cases hc : n = d
  · have HF := Lib.hid (show vecB p d xs = isB p xs by simp [vecB, hx.1, hc])
    have hcb : ((n : Int) == (d : Int)) = true := by simp [hc]
    clear hc
    go_enter Tryz.func95, Tryz.ntmps95
    go_wp2_with (first | (go_at_call 53; refine (c_dim _ _ _ _ _).mono ?_; rintro e w1 ⟨rfl, h1⟩; have hcc := Ext.cells h1) | (go_at_call 38; refine (c_field _ _ _).mono ?_; rintro e w2 ⟨rfl, h2⟩; have hcc2 := Ext.cells (h1.trans h2)) | (go_at_call 77; refine (c_is _ _ _ _ _ _ hp1 hp2 hl (hx.ext ((ext_alloc _ _).trans (h1.trans h2)))).mono ?_; rintro e w3 ⟨rfl, h3⟩))
    go_ret
    exact ⟨ret_bool HF.out.symm, (ext_alloc _ _).trans (h1.trans (h2.trans h3))⟩
  · have HF := Lib.hid (show vecB p d xs = false by simp [vecB, hx.1, hc])
    have hcb : ((n : Int) == (d : Int)) = false := by simp; omega
    go_enter Tryz.func95, Tryz.ntmps95
    go_wp2_with (first | (go_at_call 53; refine (c_dim _ _ _ _ _).mono ?_; rintro e w1 ⟨rfl, h1⟩; have hcc := Ext.cells h1))
    go_ret
    exact ⟨ret_bool HF.out.symm, (ext_alloc _ _).trans h1⟩

set_option maxHeartbeats 400000 in
theorem c_checkVectors1 (p : Int) (a : Option Addr) (d cap : Nat) (ax : Option Addr) (n cx : Nat) (xs : List Int) (q : Nat) (w : World) (hp1 : 1 ≤ p) (hp2 : p ≤ 1000) (hl : n ≤ 4194304) (hx : RdC w ax n xs)
    (hq0 : w.cell? ⟨q, 0, none⟩ = some (.int .i64 p)) (hq1 : w.cell? ⟨q, 1, none⟩ = some (.slice a d cap)) :
    Calls Tryz.prog 94 #[.slice ax n cx, .pointer (some ⟨q, 0, none⟩)] w fun e w' => e = .returned (.bool (!vecB p d xs)) ∧ Ext w w' := by
  go_enter Tryz.func94, Tryz.ntmps94
  go_wp2_with (go_at_call 95; refine (c_isVector _ _ _ _ _ _ _ _ _ hp1 hp2 hl hx).mono ?_; rintro e w1 ⟨rfl, h1⟩)
  go_ret
  exact ⟨rfl, h1⟩

theorem any_rowsV (p : Int) (d n : Nat) (rows : List (List Int)) (hn : rows.length = n) : (List.range n).any (fun i => !vecB p d (nthR rows i)) = !rows.all (vecB p d) := by
  subst hn
  rw [← any_not_all]
  rw [Bool.eq_iff_iff]
  simp only [List.any_eq_true, List.mem_range]
  constructor
  · rintro ⟨i, hi, h⟩
    exact ⟨i, hi, by rw [List.getElem?_eq_getElem hi]; rw [nthR_eq hi] at h; exact h⟩
  · rintro ⟨i, hi, h⟩
    exact ⟨i, hi, by rw [List.getElem?_eq_getElem hi] at h; rw [nthR_eq hi]; exact h⟩

set_option maxHeartbeats 400000 in
theorem c_checkVectors (p : Int) (a : Option Addr) (d cap : Nat) (qs : List Int) (al : Option Addr) (n cl : Nat) (rows : List (List Int)) (w : World) (hd : d ≤ 4194304) (hl : n ≤ 4194304) (hr : ∀ i, i < n → (nthR rows i).length ≤ 4194304)
    (hq : RdC w a d qs) (hx : RdR w al n rows) :
    Calls Tryz.prog 69 #[.agg #[.int .i64 p, .slice a d cap], .slice al n cl] w fun e w' => e = .returned (.int .i64 (codeV p qs rows)) ∧ Ext w w' := by
  cases hs : spaceB p qs
  · have HS := Lib.hid hs
    have HC := Lib.hid (show codeV p qs rows = 1 by simp [codeV, hs])
    clear hs
    go_enter Tryz.func69, Tryz.ntmps69
    go_wp2_with (go_at_call 41; refine (c_isSpace _ _ _ _ _ _ hd (hq.ext (ext_alloc _ _))).mono ?_; rintro e w1 ⟨rfl, h1⟩; rw [HS.out])
    go_ret
    exact ⟨ret_int HC.out.symm, (ext_alloc _ _).trans h1⟩
  · obtain ⟨hp, hd1, hd6, _⟩ := space_of hs
    have hpb := prime_bd hp
    have hdq := hq.1
    have HS := Lib.hid hs
    have HC := Lib.hid (show codeV p qs rows = if rows.all (vecB p d) then 0 else 2 by simp [codeV, hs, hdq])
    have HA := Lib.hid (any_rowsV p d n rows hx.1)
    clear hs hp hdq hd1 hd6
    obtain ⟨ai, ci, hR, hrow⟩ := hx.choose
    have HR := Lib.hid hR
    have HRow := Lib.hid hrow
    clear hR hrow
    cases ha : rows.all (vecB p d)
    all_goals
      have HAl := Lib.hid ha
      clear ha
      go_enter Tryz.func69, Tryz.ntmps69
      go_wp2_with (first | (go_at_call 41; refine (c_isSpace _ _ _ _ _ _ hd (hq.ext (ext_alloc _ _))).mono ?_; rintro e w1 ⟨rfl, h1⟩; rw [HS.out]; have hcc := Ext.cells h1) | (go_at_call 93; refine (c_containsFunc al n cl 94 #[.pointer (some ⟨w.heap.size, 0, none⟩)] (rowV ai ci rows) (fun i => !vecB p d (nthR rows i)) _ hl ?_ (fun i hi => ?_) (fun i hi w2 he => ?_)).mono ?_; rotate_right; rintro e w2 ⟨rfl, h2⟩; rw [HA.out, HAl.out]))
      rotate_left
      · intro args w; go_simp
      · obtain ⟨b, off, hb1, hb2⟩ := HR.out i hi
        exact ⟨b, off, hb1, ((ext_alloc _ _).trans h1).cell hb2⟩
      · refine c_checkVectors1 p a d cap _ _ _ _ _ _ (by omega) (by omega) (hr i hi) ((HRow.out i hi).ext ((ext_alloc _ _).trans (h1.trans he))) ?_ ?_
        · refine he.cell (h1.cell ?_); simp
        · refine he.cell (h1.cell ?_); simp
      go_ret
      refine ⟨ret_int ?_, (ext_alloc _ _).trans (h1.trans h2)⟩
      rw [HC.out, HAl.out]; rfl
end Go.Proofs.YtcocbainookkcaaGreat

/-
  Lists of lists, place by place.
  No condition.
-/
namespace Go.Proofs.YtcocbainookkcaaGreat
set_option maxRecDepth 100000
open Go.RowKit

theorem nthR_set {rows : List (List Int)} {i j : Nat} {v : List Int} (h : i < rows.length) : nthR (rows.set i v) j = if i = j then v else nthR rows j := by
  by_cases hij : i = j
  · subst hij; simp [nthR, h]
  · simp [nthR, hij]
theorem ext_rows {xs ys : List (List Int)} (h : xs.length = ys.length) (he : ∀ i, i < xs.length → nthR xs i = nthR ys i) : xs = ys := by
  apply List.ext_getElem h
  intro i h1 h2
  have := he i h1
  rwa [nthR_eq h1, nthR_eq h2] at this
theorem set_self {rows : List (List Int)} {j : Nat} : rows.set j (nthR rows j) = rows := by
  by_cases hj : j < rows.length
  · rw [nthR_eq hj, List.set_getElem_self]
  · exact List.set_eq_of_length_le (by omega)
theorem nthR_take {rows : List (List Int)} {k i : Nat} (h : i < k) : nthR (rows.take k) i = nthR rows i := by simp [nthR, h]
theorem nthR_snoc {rows : List (List Int)} {v : List Int} {i : Nat} (h : i < rows.length) : nthR (rows ++ [v]) i = nthR rows i := by simp [nthR, List.getElem?_append_left h]
theorem nthR_last {rows : List (List Int)} {v : List Int} : nthR (rows ++ [v]) rows.length = v := by simp [nthR]
theorem nthR_map {α : Type} {f : α → List Int} {xs : List α} {i : Nat} (h : i < xs.length) : nthR (xs.map f) i = f xs[i] := by simp [nthR, h]
theorem takeR_snoc (rows : List (List Int)) (k : Nat) (h : k < rows.length) : rows.take (k + 1) = rows.take k ++ [nthR rows k] := by
  rw [List.take_succ_eq_append_getElem h, nthR_eq h]

end Go.Proofs.YtcocbainookkcaaGreat

/-
  Rows of rows of the call's own, each row in a block of its own: read, extended, changed.
  No condition.
-/
namespace Go.Proofs.YtcocbainookkcaaGreat
set_option maxRecDepth 100000
open Go.RowKit

/-- An owned row of numbers, whose block is one of numbers, does not feel a change of another block. -/
theorem OwnC.grown {B : Nat} {w w' : World} {a : Option Addr} {n cap : Nat} {xs : List Int} {row : Option Nat} (h : OwnC B w a n cap xs) (hg : w.grownBy w' row) (hne : ∀ g, a = some ⟨g, 0, none⟩ → row ≠ some g) : OwnC B w' a n cap xs :=
  h.keep fun g ha => hg.block g (h.base_of g ha).2 (fun e => hne g ha e.symm)

/-- Slices in blocks of their own. -/
def Apart (vs : List Value) : Prop := ∀ (i j g n c n' c' : Nat), i ≠ j → vs[i]? = some (Value.slice (some ⟨g, 0, none⟩) n c) → vs[j]? ≠ some (Value.slice (some ⟨g, 0, none⟩) n' c')
theorem apart_nil : Apart [] := fun i j g n c n' c' _ h => by simp at h

/-- Rows of the call's own (from block B on), in a row of the call's own. -/
def OwnR (B : Nat) (w : World) (a : Option Addr) (n cap : Nat) (rows : List (List Int)) : Prop :=
  rows.length = n ∧ ∃ vs : List Value, w.ownsRow B 24 1 (.slice a n cap) n vs ∧ Apart vs ∧
    ∀ i, i < n → ∃ ai ci, vs[i]? = some (.slice ai (nthR rows i).length ci) ∧ OwnC B w ai (nthR rows i).length ci (nthR rows i)

theorem ownsRow_ext {B : Nat} {w w' : World} {e : TypeId} {v : Value} {n : Nat} {vs : List Value} (h : w.ownsRow B e 1 v n vs) (he : Ext w w') : w'.ownsRow B e 1 v n vs := by
  obtain ⟨h2, h3⟩ := h
  refine ⟨h2, ?_⟩
  rcases h3 with h3 | ⟨g, c, cur, hv, hb, hh, h5⟩
  · exact .inl h3
  · exact .inr ⟨g, c, cur, hv, hb, he.heap hh, h5⟩
theorem ownsRow_mono {B B' : Nat} {w : World} {e : TypeId} {v : Value} {n : Nat} {vs : List Value} (h : w.ownsRow B e 1 v n vs) (hb : B' ≤ B) : w.ownsRow B' e 1 v n vs := by
  obtain ⟨h2, h3⟩ := h
  refine ⟨h2, ?_⟩
  rcases h3 with h3 | ⟨g, c, cur, hv, hb1, h5⟩
  · exact .inl h3
  · exact .inr ⟨g, c, cur, hv, Nat.le_trans hb hb1, h5⟩

theorem OwnR.len {B : Nat} {w : World} {a : Option Addr} {n cap : Nat} {rows : List (List Int)} (h : OwnR B w a n cap rows) : rows.length = n := h.1
theorem OwnR.mono {B B' : Nat} {w : World} {a : Option Addr} {n cap : Nat} {rows : List (List Int)} (h : OwnR B w a n cap rows) (hb : B' ≤ B) : OwnR B' w a n cap rows := by
  obtain ⟨h1, vs, h2, h3, h4⟩ := h
  refine ⟨h1, vs, ownsRow_mono h2 hb, h3, fun i hi => ?_⟩
  obtain ⟨ai, ci, h5, h6⟩ := h4 i hi
  exact ⟨ai, ci, h5, h6.mono hb⟩
theorem OwnR.ext {B : Nat} {w w' : World} {a : Option Addr} {n cap : Nat} {rows : List (List Int)} (h : OwnR B w a n cap rows) (he : Ext w w') : OwnR B w' a n cap rows := by
  obtain ⟨h1, vs, h2, h3, h4⟩ := h
  refine ⟨h1, vs, ownsRow_ext h2 he, h3, fun i hi => ?_⟩
  obtain ⟨ai, ci, h5, h6⟩ := h4 i hi
  exact ⟨ai, ci, h5, h6.ext he⟩
theorem OwnR.nil (B : Nat) (w : World) : OwnR B w none 0 0 [] := ⟨rfl, [], World.ownsRow_nil _ _ _ _, apart_nil, fun i hi => by omega⟩
theorem OwnR.base_of {B : Nat} {w : World} {a : Option Addr} {n cap : Nat} {rows : List (List Int)} (h : OwnR B w a n cap rows) : ∀ g, a = some ⟨g, 0, none⟩ → B ≤ g ∧ g < w.heap.size := by
  rintro g rfl
  obtain ⟨_, vs, h2, _⟩ := h
  exact h2.lt g rfl

/-- The outer row, laid open. -/
theorem OwnR.row {B : Nat} {w : World} {a : Option Addr} {n cap : Nat} {rows : List (List Int)} (h : OwnR B w a n cap rows) (hn : 0 < n) :
    ∃ g cur, a = some ⟨g, 0, none⟩ ∧ B ≤ g ∧ g < w.heap.size ∧ w.heap[g]? = some (.cells cur 24 (0, 0)) ∧ ∀ i, i < n → ∃ ai ci, cur[i]? = some (.slice ai (nthR rows i).length ci) ∧ OwnC B w ai (nthR rows i).length ci (nthR rows i) := by
  obtain ⟨h1, vs, ⟨h2, h3⟩, _, h4⟩ := h
  rcases h3 with ⟨_, h3⟩ | ⟨g, c, cur, hv, hb, hh, hc1, hc2, hc3, hc4⟩
  · omega
  · simp only [Value.slice.injEq] at hv
    obtain ⟨rfl, _, rfl⟩ := hv
    have hlt : g < w.heap.size := by
      rcases Nat.lt_or_ge g w.heap.size with h | h
      · exact h
      · rw [Array.getElem?_eq_none h] at hh; cases hh
    refine ⟨g, cur, rfl, hb, hlt, hh, fun i hi => ?_⟩
    obtain ⟨ai, ci, h5, h6⟩ := h4 i hi
    refine ⟨ai, ci, ?_, h6⟩
    rw [← hc4, List.getElem?_take_of_lt (by omega), Array.getElem?_toList] at h5
    exact h5
theorem OwnR.rd {B : Nat} {w : World} {a : Option Addr} {n cap : Nat} {rows : List (List Int)} (h : OwnR B w a n cap rows) : RdR w a n rows := by
  refine ⟨h.1, fun i hi => ?_⟩
  obtain ⟨g, cur, ha, _, _, hh, hc⟩ := h.row (by omega)
  obtain ⟨ai, ci, h5, h6⟩ := hc i hi
  refine ⟨g, 0, ai, ci, ha, ?_, h6.rd⟩
  simp only [World.cell?, hh, Nat.zero_add]
  simpa using h5
/-- One row. -/
theorem OwnR.at {B : Nat} {w : World} {g n cap : Nat} {rows : List (List Int)} (h : OwnR B w (some ⟨g, 0, none⟩) n cap rows) {i : Nat} (hi : i < n) :
    ∃ ai ci, w.cell? ⟨g, i, none⟩ = some (.slice ai (nthR rows i).length ci) ∧ OwnC B w ai (nthR rows i).length ci (nthR rows i) := by
  obtain ⟨g', cur, ha, _, _, hh, hc⟩ := h.row (by omega)
  cases ha
  obtain ⟨ai, ci, h5, h6⟩ := hc i hi
  refine ⟨ai, ci, ?_, h6⟩
  simp only [World.cell?, hh]
  simpa using h5
theorem OwnR.frozen {B : Nat} {w : World} {g n cap : Nat} {rows : List (List Int)} (h : OwnR B w (some ⟨g, 0, none⟩) n cap rows) (j : Nat) : w.frozen? ⟨g, j, none⟩ = false := by
  obtain ⟨_, vs, h2, _⟩ := h
  exact h2.frozenAt j
theorem OwnR.blk {B : Nat} {w : World} {a : Option Addr} {n cap : Nat} {rows : List (List Int)} (h : OwnR B w a n cap rows) : ∀ k, (Value.slice a n cap).ownBlock = some k → B ≤ k := by
  intro k hk
  obtain ⟨_, vs, h2, _⟩ := h
  exact (h2.lt k hk).1
/-- The block of an owned row of numbers is not that of an owned row of rows. -/
theorem own_apart {B B' : Nat} {w : World} {v : Value} {b : Option Addr} {n m c : Nat} {vs : List Value} {xs : List Int} (h : w.ownsRow B 24 1 v n vs) (h' : OwnC B' w b m c xs) : ∀ g, b = some ⟨g, 0, none⟩ → v.ownBlock ≠ some g := by
  rintro g rfl hk
  obtain ⟨_, h3⟩ := h
  rcases h3 with ⟨h3, _⟩ | ⟨g1, c1, cur, hv, hb, hh, _⟩
  · rw [h3] at hk; simp [Value.ownBlock] at hk
  · rw [hv] at hk; simp only [Value.ownBlock, Option.some.injEq] at hk
    subst hk
    rcases h'.2.2 with ⟨h4, _⟩ | ⟨g2, c2, cur2, hv2, _, hh2, _⟩
    · cases h4
    · simp only [Value.slice.injEq, Option.some.injEq, Addr.mk.injEq] at hv2
      obtain ⟨⟨rfl, _⟩, _⟩ := hv2
      rw [hh] at hh2
      simp only [Option.some.injEq, Obj.cells.injEq] at hh2
      exact absurd hh2.2.1 (by decide)
theorem OwnC.setOuter {B B' : Nat} {w : World} {g n cap m c j : Nat} {vs : List Value} {b : Option Addr} {xs : List Int} (h : OwnC B w b m c xs) (ho : w.ownsRow B' 24 1 (.slice (some ⟨g, 0, none⟩) n cap) n vs) (v : Value) : OwnC B (w.setCell ⟨g, j, none⟩ v) b m c xs :=
  h.keep fun k hk => Below.heap_setCell _ _ _ _ (fun e => own_apart ho h k hk (by simp only [Value.ownBlock]; simp only at e; rw [e]))

/-- A store of a new row. -/
theorem OwnR.put {B : Nat} {w0 w : World} {g n cap : Nat} {rows : List (List Int)} {b : Option Addr} {m c : Nat} {xs : List Int} {j : Nat}
    (h : OwnR B w0 (some ⟨g, 0, none⟩) n cap rows) (he : Ext w0 w) (hB : B ≤ w0.heap.size) (hx : OwnC w0.heap.size w b m c xs) (hj : j < n) :
    OwnR B (w.setCell ⟨g, j, none⟩ (.slice b m c)) (some ⟨g, 0, none⟩) n cap (rows.set j xs) := by
  obtain ⟨h1, vs, h2, hap, h4⟩ := h
  have h2' := ownsRow_ext h2 he
  have hvl : vs.length = n := by have := h2.1; omega
  refine ⟨by simpa using h1, vs.set j (.slice b m c), (h2'.stored j _).1, ?_, fun i hi => ?_⟩
  · intro i k g' n1 c1 n2 c2 hik hi hk
    have old : ∀ l n3 c3, l < n → vs[l]? = some (.slice (some ⟨g', 0, none⟩) n3 c3) → g' < w0.heap.size := fun l n3 c3 hl e => by
      obtain ⟨ai, ci, h5, h6⟩ := h4 l hl
      rw [h5] at e
      simp only [Option.some.injEq, Value.slice.injEq] at e
      exact (h6.base_of g' e.1).2
    have lt : ∀ l n3 c3, (vs.set j (.slice b m c))[l]? = some (.slice (some ⟨g', 0, none⟩) n3 c3) → l < n := fun l n3 c3 e => by
      rcases Nat.lt_or_ge l n with h | h
      · exact h
      · rw [List.getElem?_eq_none (by simp; omega)] at e; cases e
    have li := lt _ _ _ hi
    have lk := lt _ _ _ hk
    by_cases hij : j = i
    · subst hij
      rw [List.getElem?_set_self (by omega)] at hi
      simp only [Option.some.injEq, Value.slice.injEq] at hi
      have := (hx.base_of g' hi.1).1
      rw [List.getElem?_set_ne hik] at hk
      have := old k _ _ lk hk
      omega
    · rw [List.getElem?_set_ne hij] at hi
      have h7 := old i _ _ li hi
      by_cases hjk : j = k
      · subst hjk
        rw [List.getElem?_set_self (by omega)] at hk
        simp only [Option.some.injEq, Value.slice.injEq] at hk
        have := (hx.base_of g' hk.1).1
        omega
      · rw [List.getElem?_set_ne hjk] at hk
        exact hap i k g' _ _ _ _ hik hi hk
  · rw [nthR_set (by omega)]
    by_cases hij : j = i
    · subst hij
      rw [if_pos rfl, List.getElem?_set_self (by omega)]
      exact ⟨b, c, by rw [hx.1], by rw [hx.1]; exact (hx.mono hB).setOuter h2' _⟩
    · rw [if_neg hij, List.getElem?_set_ne hij]
      obtain ⟨ai, ci, h5, h6⟩ := h4 i hi
      exact ⟨ai, ci, h5, (h6.ext he).setOuter h2' _⟩

/-- Two rows are exchanged. -/
theorem OwnR.swap {B : Nat} {w : World} {g n cap : Nat} {rows : List (List Int)} {i j : Nat} (h : OwnR B w (some ⟨g, 0, none⟩) n cap rows) (hi : i < n) (hj : j < n) :
    ∃ ai ci aj cj, w.cell? ⟨g, i, none⟩ = some (.slice ai (nthR rows i).length ci) ∧ w.cell? ⟨g, j, none⟩ = some (.slice aj (nthR rows j).length cj) ∧
      OwnC B w ai (nthR rows i).length ci (nthR rows i) ∧ OwnC B w aj (nthR rows j).length cj (nthR rows j) ∧
      OwnR B ((w.setCell ⟨g, i, none⟩ (.slice aj (nthR rows j).length cj)).setCell ⟨g, j, none⟩ (.slice ai (nthR rows i).length ci)) (some ⟨g, 0, none⟩) n cap ((rows.set i (nthR rows j)).set j (nthR rows i)) := by
  obtain ⟨ai, ci, hci, hoi⟩ := h.at hi
  obtain ⟨aj, cj, hcj, hoj⟩ := h.at hj
  refine ⟨ai, ci, aj, cj, hci, hcj, hoi, hoj, ?_⟩
  obtain ⟨h1, vs, h2, hap, h4⟩ := h
  have hvl : vs.length = n := by have := h2.1; omega
  have vi : vs[i]? = some (.slice ai (nthR rows i).length ci) := by rw [← h2.cellAt i (by omega)]; exact hci
  have vj : vs[j]? = some (.slice aj (nthR rows j).length cj) := by rw [← h2.cellAt j (by omega)]; exact hcj
  have h3 := (h2.stored i (.slice aj (nthR rows j).length cj)).1
  have h5 := (h3.stored j (.slice ai (nthR rows i).length ci)).1
  have get : ∀ k, k < n → ((vs.set i (.slice aj (nthR rows j).length cj)).set j (.slice ai (nthR rows i).length ci))[k]? = vs[if k = j then i else if k = i then j else k]? := fun k hk => by
    by_cases hkj : k = j
    · subst hkj; rw [List.getElem?_set_self (by simp; omega), if_pos rfl, vi]
    · rw [List.getElem?_set_ne (Ne.symm hkj), if_neg hkj]
      by_cases hki : k = i
      · subst hki; rw [List.getElem?_set_self (by omega), if_pos rfl, vj]
      · rw [List.getElem?_set_ne (Ne.symm hki), if_neg hki]
  refine ⟨by simpa using h1, _, h5, ?_, fun k hk => ?_⟩
  · intro k l g' n1 c1 n2 c2 hkl hk hl
    have lt : ∀ l n3 c3, ((vs.set i (.slice aj (nthR rows j).length cj)).set j (.slice ai (nthR rows i).length ci))[l]? = some (.slice (some ⟨g', 0, none⟩) n3 c3) → l < n := fun l n3 c3 e => by
      rcases Nat.lt_or_ge l n with h | h
      · exact h
      · rw [List.getElem?_eq_none (by simp; omega)] at e; cases e
    have hk' := lt _ _ _ hk
    have hl' := lt _ _ _ hl
    rw [get k hk'] at hk
    rw [get l hl'] at hl
    refine hap _ _ g' _ _ _ _ ?_ hk hl
    split <;> split <;> (try split) <;> (try split) <;> omega
  · rw [get k hk]
    have e : nthR ((rows.set i (nthR rows j)).set j (nthR rows i)) k = nthR rows (if k = j then i else if k = i then j else k) := by
      rw [nthR_set (by simp; omega)]
      by_cases hkj : k = j
      · subst hkj; simp
      · rw [if_neg (Ne.symm hkj), nthR_set (by omega), if_neg hkj]
        by_cases hki : k = i
        · subst hki; simp
        · rw [if_neg (Ne.symm hki), if_neg hki]
    rw [e]
    obtain ⟨al, cl, h6, h7⟩ := h4 (if k = j then i else if k = i then j else k) (by split <;> (try split) <;> omega)
    exact ⟨al, cl, h6, (h7.setOuter h2 _).setOuter h3 _⟩

/-- The first rows. -/
theorem OwnR.take {B : Nat} {w : World} {a : Option Addr} {n cap : Nat} {rows : List (List Int)} (h : OwnR B w a n cap rows) {k : Nat} (hk : k ≤ n) : OwnR B w a k cap (rows.take k) := by
  obtain ⟨h1, vs, ⟨h2, h3⟩, hap, h4⟩ := h
  refine ⟨by simp; omega, vs.take k, ⟨by simp; omega, ?_⟩, ?_, fun i hi => ?_⟩
  · rcases h3 with ⟨h3, h5⟩ | ⟨g, c, cur, hv, hb, hh, hc1, hc2, hc3, hc4⟩
    · simp only [Value.slice.injEq] at h3
      obtain ⟨rfl, rfl, rfl⟩ := h3
      exact .inl ⟨by rw [show k = 0 by omega], by omega⟩
    · simp only [Value.slice.injEq] at hv
      obtain ⟨rfl, _, rfl⟩ := hv
      refine .inr ⟨g, cap, cur, rfl, hb, hh, by omega, hc2, hc3, ?_⟩
      rw [← hc4, List.take_take, Nat.mul_one, Nat.mul_one, Nat.min_eq_left hk]
  · intro i j g n1 c1 n2 c2 hij hi hj
    rw [List.getElem?_take] at hi hj
    split at hi
    · split at hj
      · exact hap i j g _ _ _ _ hij hi hj
      · cases hj
    · cases hi
  · obtain ⟨ai, ci, h5, h6⟩ := h4 i (by omega)
    have e : nthR (rows.take k) i = nthR rows i := by simp [nthR, hi]
    rw [e]
    exact ⟨ai, ci, by rw [List.getElem?_take_of_lt hi]; exact h5, h6⟩

/-- append of one new row. -/
theorem run_pushR {B : Nat} {w0 w : World} {ra : Option Addr} {n cap : Nat} {rows : List (List Int)} {b : Option Addr} {m c : Nat} {xs : List Int} {g : Nat} (hown : OwnR B w0 ra n cap rows) (he : Ext w0 w) (hc : w.cell? ⟨g, 0, none⟩ = some (.slice b m c)) (hx : OwnC w0.heap.size w b m c xs) (hn : n ≤ 4194304) (hB : B ≤ w0.heap.size) (ty : TypeId) :
    ∃ g' cap' w', (Builtin.append_ #[27, 27] ty #[.slice ra n cap, .slice (some ⟨g, 0, none⟩) 1 1]).run Tryz.prog w = .ok (.slice (some ⟨g', 0, none⟩) (n + 1) cap') w' ∧
      OwnR B w' (some ⟨g', 0, none⟩) (n + 1) cap' (rows ++ [xs]) ∧ w.grownBy w' (Value.slice ra n cap).ownBlock ∧ (∀ W : World, W.heap.size ≤ B → Ext W w → Ext W w') := by
  obtain ⟨i0, hi, hz0, hz1, hz2⟩ := info_parts Tryz.infoR
  have hown0 := hown
  obtain ⟨h1, vs, h2, hap, h4⟩ := hown
  have h2' := ownsRow_ext h2 he
  have hvl : vs.length = n := by have := h2.1; omega
  obtain ⟨v', w', hr, h5, h6, _⟩ := run_append_own (P := Tryz.prog) w B 27 ty 24 i0 (.slice none 0 0) 1 24 Tryz.underlying27 hi hz0 hz1 hz2 rfl (by decide) (.slice ra n cap) n vs h2'
    ⟨g, 0, none⟩ 1 1 [.slice b m c] rfl (fun j u hj => by
      cases j with
      | zero => simp only [List.getElem?_cons_zero, Option.some.injEq] at hj; subst hj; simpa [Addr.add] using hc
      | succ j => simp at hj) (fun u hu => by simp only [List.mem_singleton] at hu; subst hu; rfl) (by unfold maxLen; omega) (by omega) (Nat.le_trans hB he.size)
  have form : ∃ g cap, v' = .slice (some ⟨g, 0, none⟩) (n + 1) cap := by
    rcases h5.2 with ⟨_, h3⟩ | ⟨g, c, cur, hv, _⟩
    · omega
    · exact ⟨g, c, hv⟩
  obtain ⟨g', cap', rfl⟩ := form
  refine ⟨g', cap', w', hr, ⟨by simp [h1], vs ++ [.slice b m c], h5, ?_, fun i hin => ?_⟩, h6, fun W hW hE => hE.grown h6 fun k hk => Nat.le_trans hW (hown0.blk k hk)⟩
  · intro i k g1 n1 c1 n2 c2 hik hi hk
    have old : ∀ l n3 c3, l < n → vs[l]? = some (.slice (some ⟨g1, 0, none⟩) n3 c3) → g1 < w0.heap.size := fun l n3 c3 hl e => by
      obtain ⟨ai, ci, h5, h6⟩ := h4 l hl
      rw [h5] at e
      simp only [Option.some.injEq, Value.slice.injEq] at e
      exact (h6.base_of g1 e.1).2
    have new : (some (Value.slice b m c)) = some (.slice (some ⟨g1, 0, none⟩) n1 c1) ∨ (some (Value.slice b m c)) = some (.slice (some ⟨g1, 0, none⟩) n2 c2) → w0.heap.size ≤ g1 := fun e => by
      rcases e with e | e
      all_goals
        simp only [Option.some.injEq, Value.slice.injEq] at e
        exact (hx.base_of g1 e.1).1
    rcases Nat.lt_trichotomy i n with li | li | li
    · rw [List.getElem?_append_left (by omega)] at hi
      rcases Nat.lt_trichotomy k n with lk | lk | lk
      · rw [List.getElem?_append_left (by omega)] at hk
        exact hap i k g1 _ _ _ _ hik hi hk
      · rw [lk, ← hvl, List.getElem?_concat_length] at hk
        have := new (.inr hk); have := old i _ _ li hi; omega
      · rw [List.getElem?_eq_none (by simp; omega)] at hk; cases hk
    · rw [li, ← hvl, List.getElem?_concat_length] at hi
      rcases Nat.lt_trichotomy k n with lk | lk | lk
      · rw [List.getElem?_append_left (by omega)] at hk
        have := new (.inl hi); have := old k _ _ lk hk; omega
      · omega
      · rw [List.getElem?_eq_none (by simp; omega)] at hk; cases hk
    · rw [List.getElem?_eq_none (by simp; omega)] at hi; cases hi
  · by_cases hlt : i < n
    · obtain ⟨ai, ci, h7, h8⟩ := h4 i hlt
      have e : nthR (rows ++ [xs]) i = nthR rows i := by simp [nthR, List.getElem?_append_left (show i < rows.length by omega)]
      rw [e]
      exact ⟨ai, ci, by rw [List.getElem?_append_left (by omega)]; exact h7, (h8.ext he).grown h6 (own_apart h2' (h8.ext he))⟩
    · obtain rfl : i = n := by omega
      have e : nthR (rows ++ [xs]) i = xs := by simp [nthR, ← h1]
      rw [e, hx.1]
      exact ⟨b, c, by rw [← hvl]; simp, (hx.mono hB).grown h6 (own_apart h2' hx)⟩

theorem wpList_pushR {ops : Array Oper} {rest : List Oper} {o : Oper} {a : Act} {Q : Exit → Act → World → Prop} {w0 w : World} (hgd : o.guard = none) (s x : Operand)
    (ho : o.op = .call { callee := .builtin .append, args := #[s, x], argTypes := #[27, 27] })
    {B : Nat} {ra : Option Addr} {n cap : Nat} {rows : List (List Int)} {b : Option Addr} {m c : Nat} {xs : List Int} {g : Nat} (hs : a.eval s = .slice ra n cap) (hx : a.eval x = .slice (some ⟨g, 0, none⟩) 1 1)
    (hown : OwnR B w0 ra n cap rows) (he : Ext w0 w) (hxs : OwnC w0.heap.size w b m c xs) (hc : w.cell? ⟨g, 0, none⟩ = some (.slice b m c)) (hn : n ≤ 4194304) (hB : B ≤ w0.heap.size)
    (h : ∀ g' cap' w', OwnR B w' (some ⟨g', 0, none⟩) (n + 1) cap' (rows ++ [xs]) → w.grownBy w' (Value.slice ra n cap).ownBlock → (∀ W : World, W.heap.size ≤ B → Ext W w → Ext W w') →
      wpList Tryz.prog ops Q rest (a.put o.dst (.slice (some ⟨g', 0, none⟩) (n + 1) cap')) w') : wpList Tryz.prog ops Q (o :: rest) a w := by
  refine wpList_plain hgd fun K hK => ?_
  obtain ⟨g', cap', w', hr, h1, h2, h3⟩ := run_pushR hown he hc hxs hn hB o.type
  unfold Oper.wp execOp
  simp only [ho, resolve, invoke, builtin, Sem.run_bind, Sem.run_pure, Result.andThen_ok, List.map_toArray, List.map_cons, List.map_nil, hs, hx, hr]
  exact hK _ _ (h g' cap' w' h1 h2 h3)

theorem ownR_empty (w : World) : OwnR w.heap.size (w.alloc (.cells #[] 24)) (some ⟨w.heap.size, 0, none⟩) 0 0 [] := by
  refine ⟨rfl, [], ⟨rfl, .inr ⟨w.heap.size, 0, #[], rfl, Nat.le_refl _, heap_alloc_new w _, Nat.le_refl _, by unfold maxLen; omega, by simp, by simp⟩⟩, apart_nil, fun i hi => by omega⟩

/-- New empty rows. -/
theorem make_rows (w : World) (n : Nat) (hn : n ≤ 4194304) :
    ∃ w', (Instr.makeSlice 27 (.int .i64 (n : Int)) (.int .i64 (n : Int))).run Tryz.prog w = .ok (.slice (some ⟨w.heap.size, 0, none⟩) n n) w' ∧
      OwnR w.heap.size w' (some ⟨w.heap.size, 0, none⟩) n n (List.replicate n []) ∧ Ext w w' := by
  obtain ⟨i0, hi, hz0, hz1, hz2⟩ := info_parts Tryz.infoR
  obtain ⟨w', h1, h2, h3⟩ := run_make_full (P := Tryz.prog) w w.heap.size 27 24 i0 (.slice none 0 0) 1 Tryz.underlying27 hi hz0 hz1 .i64 .i64 n (by rw [hz2]; omega) (by unfold maxLen; omega) (Nat.le_refl _)
  have e1 : (madeCells (Value.slice none 0 0).cells (n * 1)).toList = List.replicate n (Value.slice none 0 0) := by
    rw [Nat.mul_one]; exact toList_madeCells_one _ _
  rw [e1] at h2
  refine ⟨w', h1, ⟨by simp, _, h2, ?_, fun i hi => ?_⟩, (Ext.refl w).grown h3 (fun k hk => by cases hk)⟩
  · intro i j g n1 c1 n2 c2 _ h
    have := List.mem_of_getElem? h
    simp at this
  · have e : nthR (List.replicate n []) i = [] := by simp [nthR, hi]
    rw [e]
    exact ⟨none, 0, by simp [hi], own_nil _ _⟩

end Go.Proofs.YtcocbainookkcaaGreat

/-
  Contracts: copies of rows, transposed rows, unit rows, in the program and in the reference.
  No condition.
-/
namespace Go.Proofs.YtcocbainookkcaaGreat
set_option maxRecDepth 100000
open Go.RowKit

theorem RdC.addr {w : World} {a : Option Addr} {n : Nat} {xs : List Int} (h : RdC w a n xs) (hn : 0 < n) : ∃ b off, a = some ⟨b, off, none⟩ := by
  obtain ⟨b, off, ha, _⟩ := h.2 0 hn
  exact ⟨b, off, ha⟩

theorem cell_new (w : World) (z : Nat) (hz : z = w.heap.size) (v : Value) (t : TypeId) : (w.alloc (.cells #[v] t)).cell? ⟨z, 0, none⟩ = some v := by subst hz; simp

set_option maxHeartbeats 1000000 in
theorem c_cloneRows (a : Option Addr) (n cap m : Nat) (rows : List (List Int)) (w : World) (hm : 0 < m) (hm2 : m ≤ 4194303) (hl : n ≤ 4194303) (hrl : ∀ i, i < n → (nthR rows i).length = m) (hx : RdR w a n rows) :
    Calls Tryz.prog 70 #[.slice a n cap] w fun e w' => ∃ g rc, e = .returned (.slice (some ⟨g, 0, none⟩) n rc) ∧ OwnR w.heap.size w' (some ⟨g, 0, none⟩) n rc rows ∧ Ext w w' := by
  have HX := Lib.hid hx
  have HRL := Lib.hid hrl
  clear hx hrl
  go_enter Tryz.func70, Tryz.ntmps70
  go_wp2_with (fail)
  go_loopw [3, 9] (fun v i wr => ∃ (k g rc : Nat), k ≤ n ∧ i = .int .i64 k ∧ v = .slice (some ⟨g, 0, none⟩) k rc ∧ OwnR w.heap.size wr (some ⟨g, 0, none⟩) k rc (rows.take k) ∧ Ext w wr) (fun _ i _ => n - (intOf i).toNat)
  case atStart => exact ⟨0, _, _, Nat.zero_le _, rfl, rfl, ownR_empty w, ext_alloc _ _⟩
  case round =>
    obtain ⟨k, g, rc, hk, rfl, rfl, hown, hext⟩ := hrel
    have HOwn := Lib.hid hown
    have HExt := Lib.hid hext
    clear hown hext
    by_cases hlt : k < n
    · obtain ⟨b, off, ai, ci, rfl, hc, hri⟩ := HX.out.2 k hlt
      rw [HRL.out k hlt] at hc hri
      obtain ⟨bi, oi, rfl⟩ := hri.addr hm
      have hc' := HExt.out.cell hc
      have HRi := Lib.hid (hri.ext HExt.out)
      clear hc hri
      go_wp2_with (fail)
      refine (c_clone bi oi m ci _ _ hm hm2 HRi.out).mono ?_
      rintro e w1 ⟨g1, rc1, rfl, ho1, h1⟩
      have HO1 := Lib.hid ho1
      have H1 := Lib.hid h1
      clear ho1 h1
      go_wp2_with (at_builtin; refine wpList_pushR (w0 := wr) rfl (.tmp 13) (.tmp 16) rfl rfl rfl HOwn.out (H1.out.trans (ext_alloc _ _)) (HO1.out.ext (ext_alloc _ _)) ?hc (by omega) HExt.out.size ?hk)
      case hc => simp
      case hk =>
        intro g' cap' w3 ho3 hg3 he3
        have HO3 := Lib.hid ho3
        have HE3 := Lib.hid (he3 w (Nat.le_refl _) ((HExt.out.trans H1.out).alloc _))
        clear ho3 hg3 he3
        go_wp2_with (fail)
        go_roundw
        case rel => exact ⟨k + 1, g', cap', by omega, by go_num, rfl, by rw [takeR_snoc _ _ (by rw [HX.out.1]; exact hlt)]; exact HO3.out, HE3.out⟩
        case measure => simp [intOf]; omega
    · go_wp2_with (fail)
      go_ret
      obtain rfl : k = n := by omega
      exact ⟨g, rc, rfl, by have := HOwn.out; rwa [List.take_of_length_le (by rw [HX.out.1]; exact Nat.le_refl _)] at this, HExt.out⟩


/-! ### Transposed rows -/
def colL (rows : List (List Int)) (k n : Nat) : List Int := (List.range n).map fun i => nth (nthR rows i) k
theorem colL_succ (rows : List (List Int)) (k n : Nat) : colL rows k (n + 1) = colL rows k n ++ [nth (nthR rows n) k] := by simp [colL, List.range_succ]
theorem colL_len (rows : List (List Int)) (k n : Nat) : (colL rows k n).length = n := by simp [colL]
theorem colL_nth {rows : List (List Int)} {k n i : Nat} (h : i < n) : nth (colL rows k n) i = nth (nthR rows i) k := by
  unfold colL; rw [nth_map (by simpa using h)]; simp
/-- The first m columns of n rows. -/
def turnL (rows : List (List Int)) (n m : Nat) : List (List Int) := (List.range m).map fun k => colL rows k n
theorem turnL_succ (rows : List (List Int)) (n m : Nat) : turnL rows n (m + 1) = turnL rows n m ++ [colL rows m n] := by simp [turnL, List.range_succ]
theorem turnL_len (rows : List (List Int)) (n m : Nat) : (turnL rows n m).length = m := by simp [turnL]
theorem turnL_nth {rows : List (List Int)} {n m k : Nat} (h : k < m) : nthR (turnL rows n m) k = colL rows k n := by
  unfold turnL; rw [nthR_map (by simpa using h)]; simp



/-! ### Unit rows -/
def unitL (n k : Nat) : List (List Int) := (List.range k).map fun i => bladeL n i
theorem unitL_succ (n k : Nat) : unitL n (k + 1) = unitL n k ++ [bladeL n k] := by simp [unitL, List.range_succ]
theorem unitL_len (n k : Nat) : (unitL n k).length = k := by simp [unitL]
theorem unitL_nth {n k i : Nat} (h : i < k) : nthR (unitL n k) i = bladeL n i := by
  unfold unitL; rw [nthR_map (by simpa using h)]; simp
end Go.Proofs.YtcocbainookkcaaGreat
