/-
  Contracts and plain laws, part 8: PureC.
  No condition.
-/
import Derived.Test.YthflmmgolegonaaPart6
import Derived.Test.YthflmmgolegonaaPart7
import Derived.Test.YthflmmgolegonaaPart1
/-
  PureTriple in the program.
  No condition.
-/
namespace Go.Proofs.Ythflmmgolegonaa
set_option maxRecDepth 100000
open Go.RowKit

/-- Three matrices of the call's own, in ranges of blocks that follow one another. -/
def Trip (lo : Nat) (w : World) (n : Nat) (A B C : List (List Int)) (v : Value) : Prop := ∃ a1 c1 a2 c2 a3 c3 l1 h1 l2 h2 l3 h3, v = .agg #[.slice a1 n c1, .slice a2 n c2, .slice a3 n c3] ∧ lo ≤ l1 ∧ l1 ≤ h1 ∧ h1 ≤ l2 ∧ l2 ≤ h2 ∧ h2 ≤ l3 ∧ l3 ≤ h3 ∧ h3 ≤ w.heap.size ∧ OwnRH l1 h1 w a1 n c1 A ∧ OwnRH l2 h2 w a2 n c2 B ∧ OwnRH l3 h3 w a3 n c3 C
theorem WroteIn.grown {lo hi : Nat} {a b c : World} {row : Option Nat} (h : WroteIn lo hi a b) (hg : b.grownBy c row) (hr : ∀ k, row = some k → a.heap.size ≤ k) : WroteIn lo hi a c := by
  have hb := (Below.refl a.heap.size b).grown hg h.size hr
  exact ⟨Nat.le_trans h.size hb.size, hb.os.trans h.os, hb.tape.trans h.tape, hb.output.trans h.output, fun k hk hd => (hb.block k hk).trans (h.block k hk hd)⟩
theorem TrAt.set3 {w : World} {O : Nat} {u0 u1 u2 v0 v1 v2 : Value} (h : TrAt w O u0 u1 u2) : TrAt (((w.setCell ⟨O, 0, none⟩ v0).setCell ⟨O, 1, none⟩ v1).setCell ⟨O, 2, none⟩ v2) O v0 v1 v2 := by
  obtain ⟨h0, h1, h2, h3, h4, h5⟩ := h
  exact ⟨by go_simp, by go_simp, by go_simp, by go_simp, by go_simp, by go_simp⟩
theorem OwnRH.nil (lo hi : Nat) (w : World) : OwnRH lo hi w none 0 0 [] := by
  obtain ⟨h1, vs, h2, h3, h4⟩ := OwnR.nil lo w
  exact ⟨h1, (fun g hg => by cases hg), vs, h2, h3, fun i hi => absurd hi (Nat.not_lt_zero _)⟩
theorem two_zero {p x : Int} (hp : primeB p = true) (h0 : 0 ≤ x) (h1 : x < p) : 2 * x % p = 0 ↔ x = 0 := by
  have hb := prime_bd hp
  have h := mul_zero_of hp (x := 2) (y := x) (by omega) (by omega) h0 h1
  rw [h]; omega

set_option maxHeartbeats 4000000 in
set_option maxRecDepth 100000 in
theorem c_trace (p : Int) (a : Option Addr) (d cap : Nat) (bx ox n cx : Nat) (x : List Int) (w : World) (hp1 : 3 ≤ p) (hp2 : p ≤ 900) (hn : 0 < n) (hx : RdC w (some ⟨bx, ox, none⟩) n x) (hg : 0 ≤ nth x 0 ∧ nth x 0 < p) :
    Calls Try.prog 38 #[.agg #[.int .i64 p, .slice a d cap], .slice (some ⟨bx, ox, none⟩) n cx] w fun e w' => e = .returned (.int .i64 (2 * nth x 0 % p)) ∧ Ext w w' := by
  obtain ⟨W, hW⟩ : ∃ W, W = w.alloc (.cells #[.int .i64 p, .slice a d cap] 30) := ⟨_, rfl⟩
  have E : Hid (Ext w W) := Lib.hid (by rw [hW]; exact ext_alloc _ _)
  have C0 : Hid (W.cell? ⟨w.heap.size, 0, none⟩ = some (.int .i64 p)) := Lib.hid (by rw [hW]; simp)
  have C1 : Hid (W.cell? ⟨w.heap.size, 1, none⟩ = some (.slice a d cap)) := Lib.hid (by rw [hW]; simp)
  have HZ : Hid (W.heap.size = w.heap.size + 1) := Lib.hid (by rw [hW]; simp)
  have HW := Lib.hid hW
  clear hW
  have HX := Lib.hid (hx.ext E.out)
  clear hx
  obtain ⟨u, hu⟩ : ∃ u, u = nth x 0 := ⟨_, rfl⟩
  have HXC := Lib.hid (show W.cell? ⟨bx, ox, none⟩ = some (.int .i64 u) by
    obtain ⟨b9, o9, ha9, hc9⟩ := HX.out.2 0 hn
    simp only [Option.some.injEq, Addr.mk.injEq, and_true] at ha9
    obtain ⟨rfl, rfl⟩ := ha9
    rw [Nat.add_zero, ← hu] at hc9
    exact hc9)
  rw [← hu] at hg ⊢
  obtain ⟨y, hy⟩ : ∃ y, y = 2 * u := ⟨_, rfl⟩
  have hwy : IntKind.i64.wrap (2 * u) = y := by rw [hy]; exact IntWalk.i64_in _ (by omega)
  have HY := Lib.hid hy
  have hn0i : (0 : Int) < (n : Int) := by omega
  rw [← HY.out]
  clear hu hy hg
  have hc9 := HXC.out
  go_enter Try.func38, Try.ntmps38
  have x00 := C0.out
  have x01 := C1.out
  go_wp2_with (fail)
  clear x00 x01
  rw [← HW.out]
  clear HW
  clear hc9
  replace E := Lib.hid (E.out.trans (ext_drew W))
  replace HX := Lib.hid (HX.out.ext (ext_drew W))
  replace C0 := Lib.hid ((ext_drew W).cell (p := ⟨w.heap.size, 0, none⟩) C0.out)
  replace C1 := Lib.hid ((ext_drew W).cell (p := ⟨w.heap.size, 1, none⟩) C1.out)
  refine wp_region_lex [(1, .val (.int .i64 p)), (6, .val (.int .i64 (y % p)))] (by kernel_rfl) (by kernel_rfl) ?_
  (refine LexW.pure (v := ?_) rfl rfl (fun w1 he => ?_) ?_; rotate_left; ( have x00 := (he.cell (p := ⟨w.heap.size, 0, none⟩) C0.out); have x01 := (he.cell (p := ⟨w.heap.size, 1, none⟩) C1.out); have xc := he.cell ((ext_drew W).cell HXC.out); go_simp; rfl); simp only [Act.put, List.setIfInBounds_toArray, List.set_cons_zero, List.set_cons_succ])
  (refine LexW.call (f := ?_) (args := ?_) rfl rfl (fun w1 => ?_) (fun w1 he hdep => ?_) ?_; rotate_left 2; (go_simp; refine ⟨?_, ?_⟩ <;> rfl); ( exact c_dfield p (.slice a d cap) w1); simp only [Act.put, List.setIfInBounds_toArray, List.set_cons_zero, List.set_cons_succ])
  (refine LexW.pure (v := ?_) rfl rfl (fun w1 he => ?_) ?_; rotate_left; ( have x00 := (he.cell (p := ⟨w.heap.size, 0, none⟩) C0.out); have x01 := (he.cell (p := ⟨w.heap.size, 1, none⟩) C1.out); have xc := he.cell ((ext_drew W).cell HXC.out); go_simp; rfl); simp only [Act.put, List.setIfInBounds_toArray, List.set_cons_zero, List.set_cons_succ])
  (refine LexW.pure (v := ?_) rfl rfl (fun w1 he => ?_) ?_; rotate_left; ( have x00 := (he.cell (p := ⟨w.heap.size, 0, none⟩) C0.out); have x01 := (he.cell (p := ⟨w.heap.size, 1, none⟩) C1.out); have xc := he.cell ((ext_drew W).cell HXC.out); go_simp; rfl); simp only [Act.put, List.setIfInBounds_toArray, List.set_cons_zero, List.set_cons_succ])
  (refine LexW.pure (v := ?_) rfl rfl (fun w1 he => ?_) ?_; rotate_left; ( have x00 := (he.cell (p := ⟨w.heap.size, 0, none⟩) C0.out); have x01 := (he.cell (p := ⟨w.heap.size, 1, none⟩) C1.out); have xc := he.cell ((ext_drew W).cell HXC.out); go_simp; rfl); simp only [Act.put, List.setIfInBounds_toArray, List.set_cons_zero, List.set_cons_succ])
  (refine LexW.pure (v := ?_) rfl rfl (fun w1 he => ?_) ?_; rotate_left; ( have x00 := (he.cell (p := ⟨w.heap.size, 0, none⟩) C0.out); have x01 := (he.cell (p := ⟨w.heap.size, 1, none⟩) C1.out); have xc := he.cell ((ext_drew W).cell HXC.out); go_simp; rfl); simp only [Act.put, List.setIfInBounds_toArray, List.set_cons_zero, List.set_cons_succ])
  (refine LexW.call (f := ?_) (args := ?_) rfl rfl (fun w1 => ?_) (fun w1 he hdep => ?_) ?_; rotate_left 2; (go_simp; refine ⟨?_, ?_⟩ <;> rfl); ( exact c_num p y w1 (by omega) (by omega)); simp only [Act.put, List.setIfInBounds_toArray, List.set_cons_zero, List.set_cons_succ])
  (refine LexW.pure (v := ?_) rfl rfl (fun w1 he => ?_) ?_; rotate_left; ( have x00 := (he.cell (p := ⟨w.heap.size, 0, none⟩) C0.out); have x01 := (he.cell (p := ⟨w.heap.size, 1, none⟩) C1.out); have xc := he.cell ((ext_drew W).cell HXC.out); go_simp; rfl); simp only [Act.put, List.setIfInBounds_toArray, List.set_cons_zero, List.set_cons_succ])
  refine LexW.nil (fun w3 he hkn => ?_)
  have HE := Lib.hid he
  clear he hkn 
  rename World => v1
  replace E := Lib.hid (E.out.trans HE.out)
  replace HX := Lib.hid (HX.out.ext HE.out)
  replace C0 := Lib.hid (HE.out.cell (p := ⟨w.heap.size, 0, none⟩) C0.out)
  replace C1 := Lib.hid (HE.out.cell (p := ⟨w.heap.size, 1, none⟩) C1.out)
  clear HE
  have x00 := C0.out
  have x01 := C1.out
  go_wp2_with (fail)
  clear x00 x01
  go_ret
  exact ⟨rfl, E.out⟩
set_option maxHeartbeats 40000000 in
set_option maxRecDepth 100000 in
theorem c_PureTriple_bad (p : Int) (a : Option Addr) (d : Nat) (st : List Int) (ax : Option Addr) (n : Nat) (x : List Int) (w : World) (hd : d ≤ 4194303) (hn : n ≤ 4194303) (hq : RdC w a d st) (hx : RdC w ax n x) (hc : codePu p st x ≠ 0) :
    Calls Try.prog 19 #[.agg #[.int .i64 p, .slice a d d], .slice ax n n] w fun e w' => ∃ V, e = .returned (.tuple #[V, .int .i64 (codePu p st x)]) ∧ Trip w.heap.size w' 0 [] [] [] V ∧ Ext w w' := by
  have HXL := Lib.hid hx.1
  obtain ⟨O, hO⟩ : ∃ O, O = w.heap.size := ⟨_, rfl⟩
  obtain ⟨U, hU⟩ : ∃ W, W = w.alloc (.cells #[.int .i64 p, .slice a d d] 30) := ⟨_, rfl⟩
  obtain ⟨W, hW⟩ : ∃ W, W = U.alloc (.cells #[.slice none 0 0, .slice none 0 0, .slice none 0 0] 38) := ⟨_, rfl⟩
  have hUz : U.heap.size = O + 1 := by rw [hU, hO]; simp
  have hWz : W.heap.size = O + 2 := by rw [hW]; simp; omega
  have E := Lib.hid (show Ext w W by rw [hW, hU]; exact (ext_alloc _ _).alloc _)
  have C0 := Lib.hid (show W.cell? ⟨O, 0, none⟩ = some (.int .i64 p) by rw [hW, hU, hO]; simp)
  have C1 := Lib.hid (show W.cell? ⟨O, 1, none⟩ = some (.slice a d d) by rw [hW, hU, hO]; simp)
  have TR := Lib.hid (show TrAt W (O + 1) (.slice none 0 0) (.slice none 0 0) (.slice none 0 0) by have h := trAt_new U (.slice none 0 0) (.slice none 0 0) (.slice none 0 0) 38; rw [hUz, ← hW] at h; exact h)
  have HQ := Lib.hid (hq.ext E.out)
  have HX := Lib.hid (hx.ext E.out)
  have HW := Lib.hid hW
  have HU := Lib.hid hU
  have HO := Lib.hid hO
  have HWZ := Lib.hid hWz
  clear hq hx hU hW hUz hWz hO
  obtain ⟨K, hK⟩ : ∃ K, K = code3 p st [x] [] := ⟨_, rfl⟩
  have HK := Lib.hid hK
  have HCP := Lib.hid hc
  clear hK hc
  go_enter Try.func19, Try.ntmps19
  go_wp2_with (fail)
  rw [← HU.out, ← HO.out]
  rw [← HW.out]
  obtain ⟨V, hV⟩ : ∃ z, z = W.alloc (.cells #[.slice ax n n] 22) := ⟨_, rfl⟩
  have gg : Ext W V := by rw [hV]; exact ext_alloc _ _
  have HRX := Lib.hid (show RdR V (some ⟨O + 1 + 1, 0, none⟩) 1 [x] by
    have hz9 : W.heap.size = O + 1 + 1 := HWZ.out
    rw [hV, ← hz9]; exact rdR_one (a := ax) (n := n) (cap := n) (by simp) (HX.out.ext (ext_alloc _ _)))
  rw [← hV]
  clear hV HW HU
  replace E := Lib.hid (E.out.trans gg)
  replace HQ := Lib.hid (HQ.out.ext gg)
  replace HX := Lib.hid (HX.out.ext gg)
  replace TR := Lib.hid (TR.out.ext gg)
  replace C0 := Lib.hid (gg.cell (p := ⟨O, 0, none⟩) C0.out)
  replace C1 := Lib.hid (gg.cell (p := ⟨O, 1, none⟩) C1.out)
  clear gg
  refine Calls.mono (c_checkThree p a d d st _ 1 1 [x] none 0 0 [] V (by omega) (by omega) (len_one (by rw [HXL.out]; omega)) (by omega) (fun _ hi => absurd hi (Nat.not_lt_zero _)) (fun _ hi => absurd hi (Nat.not_lt_zero _)) HQ.out HRX.out (RdM.nil _ _)) ?_
  rintro e v1 ⟨rfl, gg⟩
  replace E := Lib.hid (E.out.trans gg)
  replace HQ := Lib.hid (HQ.out.ext gg)
  replace HX := Lib.hid (HX.out.ext gg)
  replace TR := Lib.hid (TR.out.ext gg)
  replace C0 := Lib.hid (gg.cell (p := ⟨O, 0, none⟩) C0.out)
  replace C1 := Lib.hid (gg.cell (p := ⟨O, 1, none⟩) C1.out)
  clear gg
  clear HRX
  rw [← HK.out]
  by_cases hk : K ≠ 0
  · have hkb : (K != 0) = true := by simp [hk]
    have HKE := Lib.hid (show K = codePu p st x by rw [HK.out]; exact (codePu_bad (by rw [← HK.out]; exact hk)).symm)
    clear hk
    have r0 := TR.out.c0
    have r1 := TR.out.c1
    have r2 := TR.out.c2
    have f0 := TR.out.f0
    have f1 := TR.out.f1
    have f2 := TR.out.f2
    have HOL := Lib.hid (show w.heap.size ≤ O + 1 by have := HO.out; omega)
    have HSZ := Lib.hid E.out.size
    have x00 := C0.out
    have x01 := C1.out
    go_wp2_with (fail)
    clear x00 x01
    refine bodyPost_ret (v := .tuple #[.agg #[.slice none 0 0, .slice none 0 0, .slice none 0 0], .int .i64 (K)]) (by simp [results, Try.results19, go_sem, r0, r1, r2]) rfl ⟨_, by rw [HKE.out], ⟨none, 0, none, 0, none, 0, w.heap.size, w.heap.size, w.heap.size, w.heap.size, w.heap.size, w.heap.size, rfl, Nat.le_refl _, Nat.le_refl _, Nat.le_refl _, Nat.le_refl _, Nat.le_refl _, Nat.le_refl _, (WroteIn.set3.ext E.out HOL.out).size, OwnRH.nil _ _ _, OwnRH.nil _ _ _, OwnRH.nil _ _ _⟩, WroteIn.set3.ext E.out HOL.out⟩
  replace hk : K = 0 := by simpa using hk
  have hkS : code3 p st [x] [] = 0 := by rw [← HK.out]; exact hk
  subst hk
  obtain ⟨h1, h2, h3⟩ := code3_el0 hkS
  have hpr := (doub_of h1).1
  have hpb := prime_bd hpr
  have hx0 : nth x 0 ≠ 0 := fun e0 => HCP.out (by unfold codePu; rw [if_pos hkS, if_pos e0])
  have HKE := Lib.hid (codePu_five hkS hx0)
  have hn0 : 0 < n := by rw [← HXL.out, h3.1]; exact pow_pos' _
  have hg0 : 0 ≤ nth x 0 ∧ nth x 0 < p := h3.2 0 (pow_pos' _)
  have htb : (2 * nth x 0 % p != 0) = true := by
    have := (two_zero hpr hg0.1 hg0.2)
    simp only [bne_iff_ne, ne_eq]
    rw [this]; exact hx0
  obtain ⟨bx, ox, hax⟩ := HX.out.addr hn0
  subst hax
  clear h1 h2 h3 hkS hpr hx0
  have x00 := C0.out
  have x01 := C1.out
  go_wp2_with (fail)
  clear x00 x01
  refine Calls.mono (c_trace p a d d bx ox n n x v1 (by omega) (by omega) hn0 HX.out hg0) ?_
  rintro e v2 ⟨rfl, gg⟩
  replace E := Lib.hid (E.out.trans gg)
  replace HQ := Lib.hid (HQ.out.ext gg)
  replace HX := Lib.hid (HX.out.ext gg)
  replace TR := Lib.hid (TR.out.ext gg)
  replace C0 := Lib.hid (gg.cell (p := ⟨O, 0, none⟩) C0.out)
  replace C1 := Lib.hid (gg.cell (p := ⟨O, 1, none⟩) C1.out)
  clear gg
  obtain ⟨tz, htz⟩ : ∃ z, z = 2 * nth x 0 % p := ⟨_, rfl⟩
  rw [← htz] at htb ⊢
  clear htz
  have r0 := TR.out.c0
  have r1 := TR.out.c1
  have r2 := TR.out.c2
  have f0 := TR.out.f0
  have f1 := TR.out.f1
  have f2 := TR.out.f2
  have HOL := Lib.hid (show w.heap.size ≤ O + 1 by have := HO.out; omega)
  have HSZ := Lib.hid E.out.size
  have x00 := C0.out
  have x01 := C1.out
  go_wp2_with (fail)
  clear x00 x01
  refine bodyPost_ret (v := .tuple #[.agg #[.slice none 0 0, .slice none 0 0, .slice none 0 0], .int .i64 (5)]) (by simp [results, Try.results19, go_sem, r0, r1, r2]) rfl ⟨_, by rw [HKE.out], ⟨none, 0, none, 0, none, 0, w.heap.size, w.heap.size, w.heap.size, w.heap.size, w.heap.size, w.heap.size, rfl, Nat.le_refl _, Nat.le_refl _, Nat.le_refl _, Nat.le_refl _, Nat.le_refl _, Nat.le_refl _, (WroteIn.set3.ext E.out HOL.out).size, OwnRH.nil _ _ _, OwnRH.nil _ _ _, OwnRH.nil _ _ _⟩, WroteIn.set3.ext E.out HOL.out⟩
set_option maxHeartbeats 40000000 in
set_option maxRecDepth 100000 in
theorem c_PureTriple_ok (p : Int) (a : Option Addr) (d : Nat) (st : List Int) (ax : Option Addr) (n : Nat) (x : List Int) (w : World) (hd : d ≤ 4194303) (hn : n ≤ 4194303) (hq : RdC w a d st) (hx : RdC w ax n x) (hc : codePu p st x = 0) :
    Calls Try.prog 19 #[.agg #[.int .i64 p, .slice a d d], .slice ax n n] w fun e w' => ∃ V, e = .returned (.tuple #[V, .int .i64 0]) ∧ Trip w.heap.size w' (2 ^ d) (pureA p st d (2 ^ d) x) (pureB p st d (2 ^ d) x) (pureC p st d (2 ^ d) x) V ∧ Ext w w' := by
  have HXL := Lib.hid hx.1
  obtain ⟨O, hO⟩ : ∃ O, O = w.heap.size := ⟨_, rfl⟩
  obtain ⟨U, hU⟩ : ∃ W, W = w.alloc (.cells #[.int .i64 p, .slice a d d] 30) := ⟨_, rfl⟩
  obtain ⟨W, hW⟩ : ∃ W, W = U.alloc (.cells #[.slice none 0 0, .slice none 0 0, .slice none 0 0] 38) := ⟨_, rfl⟩
  have hUz : U.heap.size = O + 1 := by rw [hU, hO]; simp
  have hWz : W.heap.size = O + 2 := by rw [hW]; simp; omega
  have E := Lib.hid (show Ext w W by rw [hW, hU]; exact (ext_alloc _ _).alloc _)
  have C0 := Lib.hid (show W.cell? ⟨O, 0, none⟩ = some (.int .i64 p) by rw [hW, hU, hO]; simp)
  have C1 := Lib.hid (show W.cell? ⟨O, 1, none⟩ = some (.slice a d d) by rw [hW, hU, hO]; simp)
  have TR := Lib.hid (show TrAt W (O + 1) (.slice none 0 0) (.slice none 0 0) (.slice none 0 0) by have h := trAt_new U (.slice none 0 0) (.slice none 0 0) (.slice none 0 0) 38; rw [hUz, ← hW] at h; exact h)
  have HQ := Lib.hid (hq.ext E.out)
  have HX := Lib.hid (hx.ext E.out)
  have HW := Lib.hid hW
  have HU := Lib.hid hU
  have HO := Lib.hid hO
  have HWZ := Lib.hid hWz
  clear hq hx hU hW hUz hWz hO
  obtain ⟨hk, hx0⟩ := codePu_zero hc
  obtain ⟨h1, h2, h3⟩ := code3_el0 hk
  have hpb := prime_bd (doub_of h1).1
  rw [HQ.out.1] at h2 h3
  have HGS := Lib.hid (show Good p d st from good_isB HQ.out.1 (doub_of h1).2.2.1)
  have HK := Lib.hid hk
  have hn0 : 0 < n := by rw [← HXL.out, h3.1]; exact pow_pos' _
  obtain ⟨N, hN⟩ : ∃ N, N = 2 ^ d := ⟨_, rfl⟩
  rw [← hN]
  have HN := Lib.hid hN
  have hN6 : N ≤ 64 := by rw [hN]; exact pow_le64 (by omega)
  rw [← hN] at h3
  obtain rfl : n = N := HXL.out.symm.trans h3.1
  have HGX := Lib.hid h3
  have HX0 := Lib.hid hx0
  have hg0 : 0 ≤ nth x 0 ∧ nth x 0 < p := h3.2 0 hn0
  have HGA := Lib.hid (show RowsG p n (pureA p st d n x) from dmat_good (by omega) HN.out)
  have HGB := Lib.hid (show RowsG p n (pureB p st d n x) from dmat_good (by omega) HN.out)
  have HGC := Lib.hid (show RowsG p n (pureS p st d n x) from sumM_good (by omega))
  clear hc hk hx0 h1 h3 hN
  go_enter Try.func19, Try.ntmps19
  go_wp2_with (fail)
  rw [← HU.out, ← HO.out]
  rw [← HW.out]
  obtain ⟨V, hV⟩ : ∃ z, z = W.alloc (.cells #[.slice ax n n] 22) := ⟨_, rfl⟩
  have gg : Ext W V := by rw [hV]; exact ext_alloc _ _
  have HRX := Lib.hid (show RdR V (some ⟨O + 1 + 1, 0, none⟩) 1 [x] by
    have hz9 : W.heap.size = O + 1 + 1 := HWZ.out
    rw [hV, ← hz9]; exact rdR_one (a := ax) (n := n) (cap := n) (by simp) (HX.out.ext (ext_alloc _ _)))
  rw [← hV]
  clear hV HW HU
  replace E := Lib.hid (E.out.trans gg)
  replace HQ := Lib.hid (HQ.out.ext gg)
  replace HX := Lib.hid (HX.out.ext gg)
  replace TR := Lib.hid (TR.out.ext gg)
  replace C0 := Lib.hid (gg.cell (p := ⟨O, 0, none⟩) C0.out)
  replace C1 := Lib.hid (gg.cell (p := ⟨O, 1, none⟩) C1.out)
  clear gg
  refine Calls.mono (c_checkThree p a d d st _ 1 1 [x] none 0 0 [] V (by omega) (by omega) (len_one (by rw [HXL.out]; omega)) (by omega) (fun _ hi => absurd hi (Nat.not_lt_zero _)) (fun _ hi => absurd hi (Nat.not_lt_zero _)) HQ.out HRX.out (RdM.nil _ _)) ?_
  rintro e v1 ⟨rfl, gg⟩
  replace E := Lib.hid (E.out.trans gg)
  replace HQ := Lib.hid (HQ.out.ext gg)
  replace HX := Lib.hid (HX.out.ext gg)
  replace TR := Lib.hid (TR.out.ext gg)
  replace C0 := Lib.hid (gg.cell (p := ⟨O, 0, none⟩) C0.out)
  replace C1 := Lib.hid (gg.cell (p := ⟨O, 1, none⟩) C1.out)
  clear gg
  clear HRX
  rw [HK.out]
  obtain ⟨bx, ox, hax⟩ := HX.out.addr hn0
  subst hax
  have x00 := C0.out
  have x01 := C1.out
  go_wp2_with (fail)
  clear x00 x01
  refine Calls.mono (c_trace p a d d bx ox n n x v1 (by omega) (by omega) hn0 HX.out hg0) ?_
  rintro e v2 ⟨rfl, gg⟩
  rw [HX0.out]
  replace E := Lib.hid (E.out.trans gg)
  replace HQ := Lib.hid (HQ.out.ext gg)
  replace HX := Lib.hid (HX.out.ext gg)
  replace TR := Lib.hid (TR.out.ext gg)
  replace C0 := Lib.hid (gg.cell (p := ⟨O, 0, none⟩) C0.out)
  replace C1 := Lib.hid (gg.cell (p := ⟨O, 1, none⟩) C1.out)
  clear gg
  have htz : ((2 : Int) * 0 % p != 0) = false := by simp
  have x00 := C0.out
  have x01 := C1.out
  go_wp2_with (fail)
  clear x00 x01
  clear htz
  obtain ⟨v0, hv0⟩ : ∃ z, z = v2.drew := ⟨_, rfl⟩
  have HV0 := Lib.hid hv0
  have gg : Ext v2 v0 := by rw [hv0]; exact ext_drew _
  clear hv0
  replace E := Lib.hid (E.out.trans gg)
  replace HQ := Lib.hid (HQ.out.ext gg)
  replace HX := Lib.hid (HX.out.ext gg)
  replace TR := Lib.hid (TR.out.ext gg)
  replace C0 := Lib.hid (gg.cell (p := ⟨O, 0, none⟩) C0.out)
  replace C1 := Lib.hid (gg.cell (p := ⟨O, 1, none⟩) C1.out)
  clear gg
  obtain ⟨J, hJ⟩ : ∃ J : World → Prop, J = (fun w' => w'.cell? ⟨O, 0, none⟩ = some (.int .i64 p) ∧ w'.cell? ⟨O, 1, none⟩ = some (.slice a d d)) := ⟨_, rfl⟩
  have HJ : Hid (∀ w', w'.cell? ⟨O, 0, none⟩ = some (.int .i64 p) → w'.cell? ⟨O, 1, none⟩ = some (.slice a d d) → J w') := Lib.hid (fun w' h1 h2 => by rw [hJ]; exact ⟨h1, h2⟩)
  have HJ2 : Hid (∀ w', J w' → w'.cell? ⟨O, 0, none⟩ = some (.int .i64 p) ∧ w'.cell? ⟨O, 1, none⟩ = some (.slice a d d)) := Lib.hid (fun w' h => by rw [hJ] at h; exact h)
  clear hJ
  have X0 := Lib.hid (Ext.refl v0)
  refine wp_region_steps 9 J (by kernel_rfl) rfl ?_
  rw [← HV0.out]
  clear HV0
  refine stepsI_float (i := 0) (v := ?_) (some 23) (by kernel_rfl) rfl rfl rfl (fun w' hI => ?_) ?_
  rotate_left
  · obtain ⟨e0, e1⟩ := HJ2.out w' hI; go_simp; rfl
  simp only [Act.put, List.setIfInBounds_toArray, List.set_cons_zero, List.set_cons_succ]
  refine stepsI_float (i := 1) (v := ?_) (some 24) (by kernel_rfl) rfl rfl rfl (fun w' hI => ?_) ?_
  rotate_left
  · go_simp; rfl
  simp only [Act.put, List.setIfInBounds_toArray, List.set_cons_zero, List.set_cons_succ]
  refine stepsI_float (i := 3) (v := ?_) (some 26) (by kernel_rfl) rfl rfl rfl (fun w' hI => ?_) ?_
  rotate_left
  · obtain ⟨e0, e1⟩ := HJ2.out w' hI; go_simp; rfl
  simp only [Act.put, List.setIfInBounds_toArray, List.set_cons_zero, List.set_cons_succ]
  refine stepsI_float (i := 4) (v := ?_) (some 27) (by kernel_rfl) rfl rfl rfl (fun w' hI => ?_) ?_
  rotate_left
  · go_simp; rfl
  simp only [Act.put, List.setIfInBounds_toArray, List.set_cons_zero, List.set_cons_succ]
  refine stepsI_two (i := 2) (k := 7) (HJ.out _ (X0.out.cell C0.out) (X0.out.cell C1.out)) (by kernel_rfl) ?_ ?_
  · skip
    refine op_call (f := ?_) (args := ?_) (R := fun v w' => ∃ g c, v = .slice (some ⟨g, 0, none⟩) n c ∧ OwnR v0.heap.size w' (some ⟨g, 0, none⟩) n c (pureA p st d n x) ∧ Ext v0 w') (some 25) rfl rfl rfl ?_ ?_ ?_
    rotate_left 2
    · go_simp; refine ⟨?_, ?_⟩ <;> rfl
    · refine Calls.mono (c_dleft p a d st (some ⟨bx, ox, none⟩) n x v0 HN.out (by omega) (by omega) (by omega) (Nat.le_refl _) (Nat.le_refl _) (HQ.out.ext X0.out) HGS.out (HX.out.ext X0.out) HGX.out) ?_
      rintro e w9 ⟨g9, c9, rfl, ho9, g9'⟩
      exact ⟨_, rfl, g9, c9, rfl, ho9, g9'⟩
    rintro v u1 ⟨gA, cA, rfl, ho9, gg⟩
    simp only [Act.put, List.setIfInBounds_toArray, List.set_cons_zero, List.set_cons_succ]
    have X1 := Lib.hid (X0.out.trans gg)
    have OA := Lib.hid ho9.high
    have hlA := gg.size'
    obtain ⟨loA, hloA⟩ : ∃ z, z = v0.heap.size := ⟨_, rfl⟩
    obtain ⟨hiA, hhiA⟩ : ∃ z, z = u1.heap.size := ⟨_, rfl⟩
    have hsA : v0.heap.size ≤ loA := by rw [hloA]; exact X0.out.size'
    rw [← hloA] at OA hlA
    rw [← hhiA] at OA hlA
    have HLA := Lib.hid hloA
    have HHA := Lib.hid hhiA
    clear ho9 gg hloA hhiA
    refine stepsI_two (i := 5) (k := 7) (HJ.out _ (X1.out.cell C0.out) (X1.out.cell C1.out)) (by kernel_rfl) ?_ ?_
    · skip
      refine op_call (f := ?_) (args := ?_) (R := fun v w' => ∃ g c, v = .slice (some ⟨g, 0, none⟩) n c ∧ OwnR u1.heap.size w' (some ⟨g, 0, none⟩) n c (pureB p st d n x) ∧ Ext u1 w') (some 28) rfl rfl rfl ?_ ?_ ?_
      rotate_left 2
      · go_simp; refine ⟨?_, ?_⟩ <;> rfl
      · refine Calls.mono (c_dright p a d st (some ⟨bx, ox, none⟩) n x u1 HN.out (by omega) (by omega) (by omega) (Nat.le_refl _) (Nat.le_refl _) (HQ.out.ext X1.out) HGS.out (HX.out.ext X1.out) HGX.out) ?_
        rintro e w9 ⟨g9, c9, rfl, ho9, g9'⟩
        exact ⟨_, rfl, g9, c9, rfl, ho9, g9'⟩
      rintro v u2 ⟨gB, cB, rfl, ho9, gg⟩
      simp only [Act.put, List.setIfInBounds_toArray, List.set_cons_zero, List.set_cons_succ]
      replace OA := Lib.hid (OA.out.ext gg)
      have X2 := Lib.hid (X1.out.trans gg)
      have OB := Lib.hid ho9.high
      have hlB := gg.size'
      obtain ⟨loB, hloB⟩ : ∃ z, z = u1.heap.size := ⟨_, rfl⟩
      obtain ⟨hiB, hhiB⟩ : ∃ z, z = u2.heap.size := ⟨_, rfl⟩
      have hsB : v0.heap.size ≤ loB := by rw [hloB]; exact X1.out.size'
      rw [← hloB] at OB hlB
      rw [← hhiB] at OB hlB
      have HLB := Lib.hid hloB
      have HHB := Lib.hid hhiB
      clear ho9 gg hloB hhiB
      refine stepsI_float (i := 6) (v := ?_) (some 29) (by kernel_rfl) rfl rfl rfl (fun w' hI => ?_) ?_
      rotate_left
      · go_simp; rfl
      simp only [Act.put, List.setIfInBounds_toArray, List.set_cons_zero, List.set_cons_succ]
      refine stepsI_one (i := 7) (HJ.out _ (X2.out.cell C0.out) (X2.out.cell C1.out)) (by kernel_rfl) ?_
      refine op_value (v := .pointer (some ⟨u2.heap.size, 0, none⟩)) (w' := u2.alloc (.cells #[.slice none 0 0, .slice none 0 0, .slice none 0 0] 38)) (some 7) rfl rfl rfl (by go_simp) ?_
      simp only [Act.put, List.setIfInBounds_toArray, List.set_cons_zero, List.set_cons_succ]
      have TT := Lib.hid (trAt_new u2 (.slice none 0 0) (.slice none 0 0) (.slice none 0 0) 38)
      obtain ⟨u3, hu9⟩ : ∃ z, z = u2.alloc (.cells #[.slice none 0 0, .slice none 0 0, .slice none 0 0] 38) := ⟨_, rfl⟩
      have gg : Ext u2 u3 := by rw [hu9]; exact ext_alloc _ _
      rw [← hu9] at TT
      rw [← hu9]
      have HTZ : Hid (u3.heap.size = u2.heap.size + 1) := Lib.hid (by rw [hu9]; simp)
      obtain ⟨gT, hgT⟩ : ∃ z, z = u2.heap.size := ⟨_, rfl⟩
      have hsT : v0.heap.size ≤ gT := by rw [hgT]; exact X2.out.size'
      rw [← hgT] at TT
      rw [← hgT]
      have HTG := Lib.hid hgT
      clear hu9 hgT
      replace OA := Lib.hid (OA.out.ext gg)
      replace OB := Lib.hid (OB.out.ext gg)
      have X3 := Lib.hid (X2.out.trans gg)
      clear gg
      refine stepsI_one (i := 8) (HJ.out _ (X3.out.cell C0.out) (X3.out.cell C1.out)) (by kernel_rfl) ?_
      have hAB : hiA ≤ loB := by rw [HHA.out, HLB.out]; exact Nat.le_refl _
      have hTB : hiB ≤ gT ∨ gT + 1 ≤ loB := .inl (by rw [HHB.out, HTG.out]; exact Nat.le_refl _)
      have hTA : hiA ≤ gT ∨ gT + 1 ≤ loA := .inl (by have := HHB.out; have := HTG.out; omega)
      have hBU : hiB ≤ u3.heap.size := by have := HHB.out; have := HTZ.out; omega
      obtain ⟨u4, hu9⟩ : ∃ z, z = (((u3.setCell ⟨gT, 0, none⟩ (.slice (some ⟨gA, 0, none⟩) n cA)).setCell ⟨gT, 1, none⟩ (.slice (some ⟨gB, 0, none⟩) n cB)).setCell ⟨gT, 2, none⟩ (.slice none 0 0)) := ⟨_, rfl⟩
      have q0 := TT.out.c0
      have q1 := TT.out.c1
      have q2 := TT.out.c2
      have q3 := TT.out.f0
      have q4 := TT.out.f1
      have q5 := TT.out.f2
      refine op_skip (w' := u4) rfl rfl (by rw [hu9]; go_simp) ?_
      simp only [Act.put]
      clear q0 q1 q2 q3 q4 q5
      have WW : WroteIn gT (gT + 1) u3 u4 := by rw [hu9]; exact WroteIn.set3
      have gg : Ext v0 u4 := WW.ext X3.out hsT
      have TT2 := Lib.hid (show TrAt u4 gT (.slice (some ⟨gA, 0, none⟩) n cA) (.slice (some ⟨gB, 0, none⟩) n cB) (.slice none 0 0) by rw [hu9]; exact TT.out.set3)
      replace OA := Lib.hid (WW.ownR OA.out hTA)
      replace OB := Lib.hid (WW.ownR OB.out hTB)
      have hBU2 : hiB ≤ u4.heap.size := Nat.le_trans hBU WW.size
      have hgO : O < v0.heap.size := lt_of_cell C0.out
      have hOT : O < gT := by omega
      have hO1T : O + 1 < gT := by have := TR.out.lt; omega
      have hO2 : O + 2 ≤ v0.heap.size := TR.out.lt
      have hTA9 := hTA
      have hTB9 := hTB
      clear hu9 WW TT HHA HLA HHB HLB HTG HTZ hTA hTB hBU
      refine stepsI_end (HJ.out _ (gg.cell C0.out) (gg.cell C1.out)) (by kernel_rfl) ?_
      replace E := Lib.hid (E.out.trans gg)
      replace HQ := Lib.hid (HQ.out.ext gg)
      replace HX := Lib.hid (HX.out.ext gg)
      replace TR := Lib.hid (TR.out.ext gg)
      replace C0 := Lib.hid (gg.cell (p := ⟨O, 0, none⟩) C0.out)
      replace C1 := Lib.hid (gg.cell (p := ⟨O, 1, none⟩) C1.out)
      clear gg
      have TT := TT2
      clear TT2
      have x00 := C0.out
      have x01 := C1.out
      go_wp2_with (fail)
      clear x00 x01
      have HT9 := Lib.hid (show gT + 1 ≤ u4.drew.heap.size from TT.out.lt)
      replace E := Lib.hid (E.out.trans (ext_drew u4))
      replace HQ := Lib.hid (HQ.out.ext (ext_drew u4))
      replace HX := Lib.hid (HX.out.ext (ext_drew u4))
      replace TR := Lib.hid (TR.out.ext (ext_drew u4))
      replace TT := Lib.hid (TT.out.ext (ext_drew u4))
      replace OA := Lib.hid (OA.out.ext (ext_drew u4))
      replace OB := Lib.hid (OB.out.ext (ext_drew u4))
      replace C0 := Lib.hid ((ext_drew u4).cell (p := ⟨O, 0, none⟩) C0.out)
      replace C1 := Lib.hid ((ext_drew u4).cell (p := ⟨O, 1, none⟩) C1.out)
      refine wp_region_lex [(1, .val (.int .i64 p)), (6, .ownR (gT + 1) n (pureS p st d n x))] (by kernel_rfl) (by kernel_rfl) ?_
      (refine LexW.pure (v := ?_) rfl rfl (fun w1 he => ?_) ?_; rotate_left; ( have x00 := (he.cell (p := ⟨O, 0, none⟩) C0.out); have x01 := (he.cell (p := ⟨O, 1, none⟩) C1.out); have t0 := he.cell TT.out.c0; have t1 := he.cell TT.out.c1; go_simp; rfl); simp only [Act.put, List.setIfInBounds_toArray, List.set_cons_zero, List.set_cons_succ])
      (refine LexW.call (f := ?_) (args := ?_) rfl rfl (fun w1 => ?_) (fun w1 he hdep => ?_) ?_; rotate_left 2; (go_simp; refine ⟨?_, ?_⟩ <;> rfl); ( exact c_dfield p (.slice a d d) w1); simp only [Act.put, List.setIfInBounds_toArray, List.set_cons_zero, List.set_cons_succ])
      (refine LexW.pure (v := ?_) rfl rfl (fun w1 he => ?_) ?_; rotate_left; ( have x00 := (he.cell (p := ⟨O, 0, none⟩) C0.out); have x01 := (he.cell (p := ⟨O, 1, none⟩) C1.out); have t0 := he.cell TT.out.c0; have t1 := he.cell TT.out.c1; go_simp; rfl); simp only [Act.put, List.setIfInBounds_toArray, List.set_cons_zero, List.set_cons_succ])
      (refine LexW.pure (v := ?_) rfl rfl (fun w1 he => ?_) ?_; rotate_left; ( have x00 := (he.cell (p := ⟨O, 0, none⟩) C0.out); have x01 := (he.cell (p := ⟨O, 1, none⟩) C1.out); have t0 := he.cell TT.out.c0; have t1 := he.cell TT.out.c1; go_simp; rfl); simp only [Act.put, List.setIfInBounds_toArray, List.set_cons_zero, List.set_cons_succ])
      (refine LexW.pure (v := ?_) rfl rfl (fun w1 he => ?_) ?_; rotate_left; ( have x00 := (he.cell (p := ⟨O, 0, none⟩) C0.out); have x01 := (he.cell (p := ⟨O, 1, none⟩) C1.out); have t0 := he.cell TT.out.c0; have t1 := he.cell TT.out.c1; go_simp; rfl); simp only [Act.put, List.setIfInBounds_toArray, List.set_cons_zero, List.set_cons_succ])
      (refine LexW.pure (v := ?_) rfl rfl (fun w1 he => ?_) ?_; rotate_left; ( have x00 := (he.cell (p := ⟨O, 0, none⟩) C0.out); have x01 := (he.cell (p := ⟨O, 1, none⟩) C1.out); have t0 := he.cell TT.out.c0; have t1 := he.cell TT.out.c1; go_simp; rfl); simp only [Act.put, List.setIfInBounds_toArray, List.set_cons_zero, List.set_cons_succ])
      (refine LexW.callR (f := ?_) (args := ?_) rfl rfl (fun w1 => ?_) (fun w1 he hdep => ?_) (fun v hv => ?_); rotate_left 2; (go_simp; refine ⟨?_, ?_⟩ <;> rfl); ( refine (c_sum p _ _ n n cA cB (pureA p st d n x) (pureB p st d n x) 1 w1 (by omega) (by omega) (by omega) (by omega) (by omega) (OA.out.low.rd.ext he) (OB.out.low.rd.ext he) HGA.out HGB.out).mono ?_; rintro e w2 ⟨g, rc, rfl, ho, g2⟩; exact ⟨_, rfl, g2, g, rc, rfl, ho.mono (Nat.le_trans HT9.out he.size)⟩); simp only [Act.put, List.setIfInBounds_toArray, List.set_cons_zero, List.set_cons_succ])
      obtain ⟨_, g36, c36, rfl, _⟩ := hv
      (refine LexW.pure (v := ?_) rfl rfl (fun w1 he => ?_) ?_; rotate_left; ( have x00 := (he.cell (p := ⟨O, 0, none⟩) C0.out); have x01 := (he.cell (p := ⟨O, 1, none⟩) C1.out); have t0 := he.cell TT.out.c0; have t1 := he.cell TT.out.c1; go_simp; rfl); simp only [Act.put, List.setIfInBounds_toArray, List.set_cons_zero, List.set_cons_succ])
      (refine LexW.pure (v := ?_) rfl rfl (fun w1 he => ?_) ?_; rotate_left; ( have x00 := (he.cell (p := ⟨O, 0, none⟩) C0.out); have x01 := (he.cell (p := ⟨O, 1, none⟩) C1.out); have t0 := he.cell TT.out.c0; have t1 := he.cell TT.out.c1; go_simp; rfl); simp only [Act.put, List.setIfInBounds_toArray, List.set_cons_zero, List.set_cons_succ])
      refine LexW.nil (fun w3 he hkn => ?_)
      obtain ⟨_, _, q36, r36⟩ : (SPred.ownR (gT + 1) n (pureS p st d n x)).holds (.slice (some ⟨g36, 0, none⟩) n c36) w3 := hkn (6, _) (by simp)
      cases q36
      have R36 := Lib.hid r36
      have HE := Lib.hid he
      have HS9 := Lib.hid he.size
      clear he hkn r36
      rename World => v3
      replace E := Lib.hid (E.out.trans HE.out)
      replace HQ := Lib.hid (HQ.out.ext HE.out)
      replace HX := Lib.hid (HX.out.ext HE.out)
      replace TR := Lib.hid (TR.out.ext HE.out)
      replace TT := Lib.hid (TT.out.ext HE.out)
      replace OA := Lib.hid (OA.out.ext HE.out)
      replace OB := Lib.hid (OB.out.ext HE.out)
      replace C0 := Lib.hid (HE.out.cell (p := ⟨O, 0, none⟩) C0.out)
      replace C1 := Lib.hid (HE.out.cell (p := ⟨O, 1, none⟩) C1.out)
      clear HE
      obtain ⟨L6, hL6⟩ : ∃ z, z = v3.heap.size := ⟨_, rfl⟩
      have HL6 := Lib.hid hL6
      have hTL : gT < L6 := by rw [hL6]; exact TT.out.lt
      have hBL : hiB ≤ L6 := by rw [hL6]; exact Nat.le_trans hBU2 HS9.out
      clear hL6 HT9 HS9
      have x00 := C0.out
      have x01 := C1.out
      go_wp2_with (fail)
      clear x00 x01
      go_loopw [38] (fun i wr => ∃ (k : Nat) (aC : Option Addr) (cC : Nat), k ≤ n ∧ i = .int .i64 k ∧ Hid (TrAt wr gT (.slice (some ⟨gA, 0, none⟩) n cA) (.slice (some ⟨gB, 0, none⟩) n cB) (.slice aC k cC)) ∧ Hid (OwnR L6 wr aC k cC (negM p (pureS p st d n x) n k)) ∧ Hid (WroteIn gT (gT + 1) v3 wr)) (fun i _ => n - (intOf i).toNat)
      case atStart => exact ⟨0, none, 0, Nat.zero_le _, rfl, TT, Lib.hid (OwnR.nil _ _), Lib.hid (WroteIn.refl _ _ _)⟩
      case round =>
        rename World => wr
        obtain ⟨k, aC, cC, hk, rfl, TW, OC, WW⟩ := hrel
        have hSZ : L6 ≤ wr.heap.size := by rw [HL6.out]; exact WW.out.size
        have D0 := Lib.hid (WW.out.cell C0.out (.inl hOT))
        have D1 := Lib.hid (WW.out.cell C1.out (.inl hOT))
        have RS := Lib.hid (WW.out.rowsR R36.out (Nat.lt_succ_self _))
        by_cases hkn : k < n
        · skip
          obtain ⟨bS, oS, aK, cK, hab, hcS, hrS⟩ := RS.out.rd.2 k hkn
          simp only [Option.some.injEq, Addr.mk.injEq, and_true] at hab
          obtain ⟨rfl, rfl⟩ := hab
          have hgS := HGC.out k (by rw [RS.out.rd.1]; exact hkn)
          rw [hgS.1] at hcS hrS
          have HGK := Lib.hid hgS
          have HRK := Lib.hid hrS
          have sc := hcS
          rw [Nat.zero_add] at sc
          clear hcS hrS hgS RS
          go_wp2_with (fail)
          clear sc
          obtain ⟨y0, hy0⟩ : ∃ z, z = wr.drew := ⟨_, rfl⟩
          have HY0 := Lib.hid hy0
          have Y0 := Lib.hid (show Ext wr y0 by rw [hy0]; exact ext_drew _)
          refine wp_region_steps 10 J (by kernel_rfl) rfl ?_
          rw [← HY0.out]
          clear hy0 HY0
          refine stepsI_float (i := 0) (v := ?_) (some 42) (by kernel_rfl) rfl rfl rfl (fun w' hI => ?_) ?_
          rotate_left
          · go_simp; rfl
          simp only [Act.put, List.setIfInBounds_toArray, List.set_cons_zero, List.set_cons_succ]
          refine stepsI_float (i := 2) (v := ?_) (some 44) (by kernel_rfl) rfl rfl rfl (fun w' hI => ?_) ?_
          rotate_left
          · obtain ⟨e0, e1⟩ := HJ2.out w' hI; go_simp; rfl
          simp only [Act.put, List.setIfInBounds_toArray, List.set_cons_zero, List.set_cons_succ]
          refine stepsI_float (i := 4) (v := ?_) (some 46) (by kernel_rfl) rfl rfl rfl (fun w' hI => ?_) ?_
          rotate_left
          · go_simp; rfl
          simp only [Act.put, List.setIfInBounds_toArray, List.set_cons_zero, List.set_cons_succ]
          refine stepsI_two (i := 1) (k := 3) (HJ.out _ (Y0.out.cell D0.out) (Y0.out.cell D1.out)) (by kernel_rfl) ?_ ?_
          · skip
            have q2 := Y0.out.cell TW.out.c2
            refine op_value (v := ?_) (w' := y0) (some 43) rfl rfl rfl ?_ ?_
            rotate_left
            · go_simp; rfl
            simp only [Act.put, List.setIfInBounds_toArray, List.set_cons_zero, List.set_cons_succ]
            clear q2
            refine stepsI_one (i := 3) (HJ.out _ (Y0.out.cell D0.out) (Y0.out.cell D1.out)) (by kernel_rfl) ?_
            refine op_call (f := ?_) (args := ?_) (R := fun v w' => v = .int .i64 p ∧ Ext wr w') (some 45) rfl rfl rfl ?_ ?_ ?_
            rotate_left 2
            · go_simp; refine ⟨?_, ?_⟩ <;> rfl
            · refine Calls.mono (c_dfield p (.slice a d d) y0) ?_
              rintro e w9 ⟨rfl, g9⟩
              exact ⟨_, rfl, rfl, Y0.out.trans g9⟩
            rintro v y1 ⟨rfl, g9⟩
            simp only [Act.put, List.setIfInBounds_toArray, List.set_cons_zero, List.set_cons_succ]
            have Y1 := Lib.hid g9
            clear g9
            refine stepsI_one (i := 5) (HJ.out _ (Y1.out.cell D0.out) (Y1.out.cell D1.out)) (by kernel_rfl) ?_
            refine op_call (f := ?_) (args := ?_) (R := fun v w' => ∃ g c, v = .slice (some ⟨g, 0, none⟩) n c ∧ OwnC y1.heap.size w' (some ⟨g, 0, none⟩) n c (scaleL p (nthR (pureS p st d n x) k) (-1) n) ∧ Ext y1 w') (some 47) rfl rfl rfl ?_ ?_ ?_
            rotate_left 2
            · go_simp; refine ⟨?_, ?_⟩ <;> rfl
            · refine Calls.mono (c_scaled p aK n cK (nthR (pureS p st d n x) k) (-1) y1 (by omega) (by omega) (by omega) (by omega) (HRK.out.ext Y1.out) HGK.out) ?_
              rintro e w9 ⟨g9, c9, rfl, ho9, g9'⟩
              exact ⟨_, rfl, g9, c9, rfl, ho9, g9'⟩
            rintro v y2 ⟨gR, cR, rfl, ho9, g9⟩
            simp only [Act.put, List.setIfInBounds_toArray, List.set_cons_zero, List.set_cons_succ]
            have OR := Lib.hid ho9
            have Y2 := Lib.hid (Y1.out.trans g9)
            have XR := Lib.hid g9
            have OC5 := Lib.hid (OC.out.ext Y1.out)
            have HB5 := Lib.hid (show L6 ≤ y1.heap.size from Nat.le_trans hSZ Y1.out.size')
            clear ho9 g9
            refine stepsI_one (i := 6) (HJ.out _ (Y2.out.cell D0.out) (Y2.out.cell D1.out)) (by kernel_rfl) ?_
            refine op_value (v := .slice (some ⟨y2.heap.size, 0, none⟩) 1 1) (w' := y2.alloc (.cells #[.slice (some ⟨gR, 0, none⟩) n cR] 22)) (some 48) rfl rfl rfl (by go_simp) ?_
            simp only [Act.put, List.setIfInBounds_toArray, List.set_cons_zero, List.set_cons_succ]
            obtain ⟨y3, hy9⟩ : ∃ z, z = y2.alloc (.cells #[.slice (some ⟨gR, 0, none⟩) n cR] 22) := ⟨_, rfl⟩
            have gg : Ext y2 y3 := by rw [hy9]; exact ext_alloc _ _
            obtain ⟨gN, hgN⟩ : ∃ z, z = y2.heap.size := ⟨_, rfl⟩
            have HCN := Lib.hid (show y3.cell? ⟨gN, 0, none⟩ = some (.slice (some ⟨gR, 0, none⟩) n cR) by rw [hy9, hgN]; simp)
            rw [← hgN, ← hy9]
            replace XR := Lib.hid (XR.out.trans gg)
            replace OR := Lib.hid (OR.out.ext gg)
            have Y3 := Lib.hid (Y2.out.trans gg)
            clear hgN hy9 gg
            refine stepsI_one (i := 7) (HJ.out _ (Y3.out.cell D0.out) (Y3.out.cell D1.out)) (by kernel_rfl) ?_
            obtain ⟨gZ, cZ, y4, hr9, ho9, hg9, _, _⟩ := run_pushR_at (c := cR) OC5.out XR.out HCN.out OR.out (by omega) HB5.out 25
            refine op_append (some 49) rfl rfl rfl rfl (.tmp 43) (.tmp 48) rfl rfl rfl hr9 ?_
            simp only [Act.put, List.setIfInBounds_toArray, List.set_cons_zero, List.set_cons_succ]
            have OZ := Lib.hid ho9
            have hblk : ∀ z, (Value.slice aC k cC).ownBlock = some z → L6 ≤ z := OC.out.blk
            have TW7 := Lib.hid ((TW.out.ext Y3.out).block (hg9.block gT (TW.out.ext Y3.out).lt (fun e => by have := hblk gT e.symm; omega)))
            have WW7 := Lib.hid ((WW.out.trans (WroteIn.ofExt Y3.out)).grown hg9 (fun z hz => by rw [← HL6.out]; exact hblk z hz))
            have D0' := Lib.hid (WW7.out.cell C0.out (.inl hOT))
            have D1' := Lib.hid (WW7.out.cell C1.out (.inl hOT))
            clear hr9 ho9 hg9 hblk
            refine stepsI_float (i := 8) (v := ?_) (some 50) (by kernel_rfl) rfl rfl rfl (fun w' hI => ?_) ?_
            rotate_left
            · go_simp; rfl
            simp only [Act.put, List.setIfInBounds_toArray, List.set_cons_zero, List.set_cons_succ]
            refine stepsI_one (i := 9) (HJ.out _ D0'.out D1'.out) (by kernel_rfl) ?_
            have q2 := TW7.out.c2
            have q5 := TW7.out.f2
            obtain ⟨y5, hy9⟩ : ∃ z, z = y4.setCell ⟨gT, 2, none⟩ (.slice (some ⟨gZ, 0, none⟩) (k + 1) cZ) := ⟨_, rfl⟩
            refine op_skip (w' := y5) rfl rfl (by rw [hy9]; go_simp) ?_
            simp only [Act.put]
            clear q2 q5
            have WW8 := Lib.hid (WW7.out.trans (show WroteIn gT (gT + 1) y4 y5 by rw [hy9]; exact WroteIn.setCell))
            have TW8 := Lib.hid (show TrAt y5 gT (.slice (some ⟨gA, 0, none⟩) n cA) (.slice (some ⟨gB, 0, none⟩) n cB) (.slice (some ⟨gZ, 0, none⟩) (k + 1) cZ) by rw [hy9]; exact TW7.out.set2 _)
            have OZ8 := Lib.hid (show OwnR L6 y5 (some ⟨gZ, 0, none⟩) (k + 1) cZ (negM p (pureS p st d n x) n (k + 1)) by rw [hy9, negM_succ]; exact (WroteIn.setCell (O := gT)).rowsR OZ.out hTL)
            refine stepsI_end (HJ.out _ (WW8.out.cell C0.out (.inl hOT)) (WW8.out.cell C1.out (.inl hOT))) (by kernel_rfl) ?_
            clear hy9
            go_wp2_with (fail)
            go_roundw
            case rel => exact ⟨k + 1, some ⟨gZ, 0, none⟩, cZ, by omega, by go_num, TW8, OZ8, WW8⟩
            case measure => simp [intOf]; omega
          · skip
            refine op_call (f := ?_) (args := ?_) (R := fun v w' => v = .int .i64 p ∧ Ext wr w') (some 45) rfl rfl rfl ?_ ?_ ?_
            rotate_left 2
            · go_simp; refine ⟨?_, ?_⟩ <;> rfl
            · refine Calls.mono (c_dfield p (.slice a d d) y0) ?_
              rintro e w9 ⟨rfl, g9⟩
              exact ⟨_, rfl, rfl, Y0.out.trans g9⟩
            rintro v y6 ⟨rfl, g9⟩
            simp only [Act.put, List.setIfInBounds_toArray, List.set_cons_zero, List.set_cons_succ]
            have Y6 := Lib.hid g9
            clear g9
            refine stepsI_two (i := 1) (k := 5) (HJ.out _ (Y6.out.cell D0.out) (Y6.out.cell D1.out)) (by kernel_rfl) ?_ ?_
            · skip
              have q2 := Y6.out.cell TW.out.c2
              refine op_value (v := ?_) (w' := y6) (some 43) rfl rfl rfl ?_ ?_
              rotate_left
              · go_simp; rfl
              simp only [Act.put, List.setIfInBounds_toArray, List.set_cons_zero, List.set_cons_succ]
              clear q2
              refine stepsI_one (i := 5) (HJ.out _ (Y6.out.cell D0.out) (Y6.out.cell D1.out)) (by kernel_rfl) ?_
              refine op_call (f := ?_) (args := ?_) (R := fun v w' => ∃ g c, v = .slice (some ⟨g, 0, none⟩) n c ∧ OwnC y6.heap.size w' (some ⟨g, 0, none⟩) n c (scaleL p (nthR (pureS p st d n x) k) (-1) n) ∧ Ext y6 w') (some 47) rfl rfl rfl ?_ ?_ ?_
              rotate_left 2
              · go_simp; refine ⟨?_, ?_⟩ <;> rfl
              · refine Calls.mono (c_scaled p aK n cK (nthR (pureS p st d n x) k) (-1) y6 (by omega) (by omega) (by omega) (by omega) (HRK.out.ext Y6.out) HGK.out) ?_
                rintro e w9 ⟨g9, c9, rfl, ho9, g9'⟩
                exact ⟨_, rfl, g9, c9, rfl, ho9, g9'⟩
              rintro v y7 ⟨gR, cR, rfl, ho9, g9⟩
              simp only [Act.put, List.setIfInBounds_toArray, List.set_cons_zero, List.set_cons_succ]
              have OR := Lib.hid ho9
              have Y7 := Lib.hid (Y6.out.trans g9)
              have XR := Lib.hid g9
              have OC5 := Lib.hid (OC.out.ext Y6.out)
              have HB5 := Lib.hid (show L6 ≤ y6.heap.size from Nat.le_trans hSZ Y6.out.size')
              clear ho9 g9
              refine stepsI_one (i := 6) (HJ.out _ (Y7.out.cell D0.out) (Y7.out.cell D1.out)) (by kernel_rfl) ?_
              refine op_value (v := .slice (some ⟨y7.heap.size, 0, none⟩) 1 1) (w' := y7.alloc (.cells #[.slice (some ⟨gR, 0, none⟩) n cR] 22)) (some 48) rfl rfl rfl (by go_simp) ?_
              simp only [Act.put, List.setIfInBounds_toArray, List.set_cons_zero, List.set_cons_succ]
              obtain ⟨y8, hy9⟩ : ∃ z, z = y7.alloc (.cells #[.slice (some ⟨gR, 0, none⟩) n cR] 22) := ⟨_, rfl⟩
              have gg : Ext y7 y8 := by rw [hy9]; exact ext_alloc _ _
              obtain ⟨gN, hgN⟩ : ∃ z, z = y7.heap.size := ⟨_, rfl⟩
              have HCN := Lib.hid (show y8.cell? ⟨gN, 0, none⟩ = some (.slice (some ⟨gR, 0, none⟩) n cR) by rw [hy9, hgN]; simp)
              rw [← hgN, ← hy9]
              replace XR := Lib.hid (XR.out.trans gg)
              replace OR := Lib.hid (OR.out.ext gg)
              have Y8 := Lib.hid (Y7.out.trans gg)
              clear hgN hy9 gg
              refine stepsI_one (i := 7) (HJ.out _ (Y8.out.cell D0.out) (Y8.out.cell D1.out)) (by kernel_rfl) ?_
              obtain ⟨gZ, cZ, y9, hr9, ho9, hg9, _, _⟩ := run_pushR_at (c := cR) OC5.out XR.out HCN.out OR.out (by omega) HB5.out 25
              refine op_append (some 49) rfl rfl rfl rfl (.tmp 43) (.tmp 48) rfl rfl rfl hr9 ?_
              simp only [Act.put, List.setIfInBounds_toArray, List.set_cons_zero, List.set_cons_succ]
              have OZ := Lib.hid ho9
              have hblk : ∀ z, (Value.slice aC k cC).ownBlock = some z → L6 ≤ z := OC.out.blk
              have TW7 := Lib.hid ((TW.out.ext Y8.out).block (hg9.block gT (TW.out.ext Y8.out).lt (fun e => by have := hblk gT e.symm; omega)))
              have WW7 := Lib.hid ((WW.out.trans (WroteIn.ofExt Y8.out)).grown hg9 (fun z hz => by rw [← HL6.out]; exact hblk z hz))
              have D0' := Lib.hid (WW7.out.cell C0.out (.inl hOT))
              have D1' := Lib.hid (WW7.out.cell C1.out (.inl hOT))
              clear hr9 ho9 hg9 hblk
              refine stepsI_float (i := 8) (v := ?_) (some 50) (by kernel_rfl) rfl rfl rfl (fun w' hI => ?_) ?_
              rotate_left
              · go_simp; rfl
              simp only [Act.put, List.setIfInBounds_toArray, List.set_cons_zero, List.set_cons_succ]
              refine stepsI_one (i := 9) (HJ.out _ D0'.out D1'.out) (by kernel_rfl) ?_
              have q2 := TW7.out.c2
              have q5 := TW7.out.f2
              obtain ⟨y10, hy9⟩ : ∃ z, z = y9.setCell ⟨gT, 2, none⟩ (.slice (some ⟨gZ, 0, none⟩) (k + 1) cZ) := ⟨_, rfl⟩
              refine op_skip (w' := y10) rfl rfl (by rw [hy9]; go_simp) ?_
              simp only [Act.put]
              clear q2 q5
              have WW8 := Lib.hid (WW7.out.trans (show WroteIn gT (gT + 1) y9 y10 by rw [hy9]; exact WroteIn.setCell))
              have TW8 := Lib.hid (show TrAt y10 gT (.slice (some ⟨gA, 0, none⟩) n cA) (.slice (some ⟨gB, 0, none⟩) n cB) (.slice (some ⟨gZ, 0, none⟩) (k + 1) cZ) by rw [hy9]; exact TW7.out.set2 _)
              have OZ8 := Lib.hid (show OwnR L6 y10 (some ⟨gZ, 0, none⟩) (k + 1) cZ (negM p (pureS p st d n x) n (k + 1)) by rw [hy9, negM_succ]; exact (WroteIn.setCell (O := gT)).rowsR OZ.out hTL)
              refine stepsI_end (HJ.out _ (WW8.out.cell C0.out (.inl hOT)) (WW8.out.cell C1.out (.inl hOT))) (by kernel_rfl) ?_
              clear hy9
              go_wp2_with (fail)
              go_roundw
              case rel => exact ⟨k + 1, some ⟨gZ, 0, none⟩, cZ, by omega, by go_num, TW8, OZ8, WW8⟩
              case measure => simp [intOf]; omega
            · skip
              refine op_call (f := ?_) (args := ?_) (R := fun v w' => ∃ g c, v = .slice (some ⟨g, 0, none⟩) n c ∧ OwnC y6.heap.size w' (some ⟨g, 0, none⟩) n c (scaleL p (nthR (pureS p st d n x) k) (-1) n) ∧ Ext y6 w') (some 47) rfl rfl rfl ?_ ?_ ?_
              rotate_left 2
              · go_simp; refine ⟨?_, ?_⟩ <;> rfl
              · refine Calls.mono (c_scaled p aK n cK (nthR (pureS p st d n x) k) (-1) y6 (by omega) (by omega) (by omega) (by omega) (HRK.out.ext Y6.out) HGK.out) ?_
                rintro e w9 ⟨g9, c9, rfl, ho9, g9'⟩
                exact ⟨_, rfl, g9, c9, rfl, ho9, g9'⟩
              rintro v y11 ⟨gR, cR, rfl, ho9, g9⟩
              simp only [Act.put, List.setIfInBounds_toArray, List.set_cons_zero, List.set_cons_succ]
              have OR := Lib.hid ho9
              have Y11 := Lib.hid (Y6.out.trans g9)
              have XR := Lib.hid g9
              have OC5 := Lib.hid (OC.out.ext Y6.out)
              have HB5 := Lib.hid (show L6 ≤ y6.heap.size from Nat.le_trans hSZ Y6.out.size')
              clear ho9 g9
              refine stepsI_two (i := 1) (k := 6) (HJ.out _ (Y11.out.cell D0.out) (Y11.out.cell D1.out)) (by kernel_rfl) ?_ ?_
              · skip
                have q2 := Y11.out.cell TW.out.c2
                refine op_value (v := ?_) (w' := y11) (some 43) rfl rfl rfl ?_ ?_
                rotate_left
                · go_simp; rfl
                simp only [Act.put, List.setIfInBounds_toArray, List.set_cons_zero, List.set_cons_succ]
                clear q2
                refine stepsI_one (i := 6) (HJ.out _ (Y11.out.cell D0.out) (Y11.out.cell D1.out)) (by kernel_rfl) ?_
                refine op_value (v := .slice (some ⟨y11.heap.size, 0, none⟩) 1 1) (w' := y11.alloc (.cells #[.slice (some ⟨gR, 0, none⟩) n cR] 22)) (some 48) rfl rfl rfl (by go_simp) ?_
                simp only [Act.put, List.setIfInBounds_toArray, List.set_cons_zero, List.set_cons_succ]
                obtain ⟨y12, hy9⟩ : ∃ z, z = y11.alloc (.cells #[.slice (some ⟨gR, 0, none⟩) n cR] 22) := ⟨_, rfl⟩
                have gg : Ext y11 y12 := by rw [hy9]; exact ext_alloc _ _
                obtain ⟨gN, hgN⟩ : ∃ z, z = y11.heap.size := ⟨_, rfl⟩
                have HCN := Lib.hid (show y12.cell? ⟨gN, 0, none⟩ = some (.slice (some ⟨gR, 0, none⟩) n cR) by rw [hy9, hgN]; simp)
                rw [← hgN, ← hy9]
                replace XR := Lib.hid (XR.out.trans gg)
                replace OR := Lib.hid (OR.out.ext gg)
                have Y12 := Lib.hid (Y11.out.trans gg)
                clear hgN hy9 gg
                refine stepsI_one (i := 7) (HJ.out _ (Y12.out.cell D0.out) (Y12.out.cell D1.out)) (by kernel_rfl) ?_
                obtain ⟨gZ, cZ, y13, hr9, ho9, hg9, _, _⟩ := run_pushR_at (c := cR) OC5.out XR.out HCN.out OR.out (by omega) HB5.out 25
                refine op_append (some 49) rfl rfl rfl rfl (.tmp 43) (.tmp 48) rfl rfl rfl hr9 ?_
                simp only [Act.put, List.setIfInBounds_toArray, List.set_cons_zero, List.set_cons_succ]
                have OZ := Lib.hid ho9
                have hblk : ∀ z, (Value.slice aC k cC).ownBlock = some z → L6 ≤ z := OC.out.blk
                have TW7 := Lib.hid ((TW.out.ext Y12.out).block (hg9.block gT (TW.out.ext Y12.out).lt (fun e => by have := hblk gT e.symm; omega)))
                have WW7 := Lib.hid ((WW.out.trans (WroteIn.ofExt Y12.out)).grown hg9 (fun z hz => by rw [← HL6.out]; exact hblk z hz))
                have D0' := Lib.hid (WW7.out.cell C0.out (.inl hOT))
                have D1' := Lib.hid (WW7.out.cell C1.out (.inl hOT))
                clear hr9 ho9 hg9 hblk
                refine stepsI_float (i := 8) (v := ?_) (some 50) (by kernel_rfl) rfl rfl rfl (fun w' hI => ?_) ?_
                rotate_left
                · go_simp; rfl
                simp only [Act.put, List.setIfInBounds_toArray, List.set_cons_zero, List.set_cons_succ]
                refine stepsI_one (i := 9) (HJ.out _ D0'.out D1'.out) (by kernel_rfl) ?_
                have q2 := TW7.out.c2
                have q5 := TW7.out.f2
                obtain ⟨y14, hy9⟩ : ∃ z, z = y13.setCell ⟨gT, 2, none⟩ (.slice (some ⟨gZ, 0, none⟩) (k + 1) cZ) := ⟨_, rfl⟩
                refine op_skip (w' := y14) rfl rfl (by rw [hy9]; go_simp) ?_
                simp only [Act.put]
                clear q2 q5
                have WW8 := Lib.hid (WW7.out.trans (show WroteIn gT (gT + 1) y13 y14 by rw [hy9]; exact WroteIn.setCell))
                have TW8 := Lib.hid (show TrAt y14 gT (.slice (some ⟨gA, 0, none⟩) n cA) (.slice (some ⟨gB, 0, none⟩) n cB) (.slice (some ⟨gZ, 0, none⟩) (k + 1) cZ) by rw [hy9]; exact TW7.out.set2 _)
                have OZ8 := Lib.hid (show OwnR L6 y14 (some ⟨gZ, 0, none⟩) (k + 1) cZ (negM p (pureS p st d n x) n (k + 1)) by rw [hy9, negM_succ]; exact (WroteIn.setCell (O := gT)).rowsR OZ.out hTL)
                refine stepsI_end (HJ.out _ (WW8.out.cell C0.out (.inl hOT)) (WW8.out.cell C1.out (.inl hOT))) (by kernel_rfl) ?_
                clear hy9
                go_wp2_with (fail)
                go_roundw
                case rel => exact ⟨k + 1, some ⟨gZ, 0, none⟩, cZ, by omega, by go_num, TW8, OZ8, WW8⟩
                case measure => simp [intOf]; omega
              · skip
                refine op_value (v := .slice (some ⟨y11.heap.size, 0, none⟩) 1 1) (w' := y11.alloc (.cells #[.slice (some ⟨gR, 0, none⟩) n cR] 22)) (some 48) rfl rfl rfl (by go_simp) ?_
                simp only [Act.put, List.setIfInBounds_toArray, List.set_cons_zero, List.set_cons_succ]
                obtain ⟨y15, hy9⟩ : ∃ z, z = y11.alloc (.cells #[.slice (some ⟨gR, 0, none⟩) n cR] 22) := ⟨_, rfl⟩
                have gg : Ext y11 y15 := by rw [hy9]; exact ext_alloc _ _
                obtain ⟨gN, hgN⟩ : ∃ z, z = y11.heap.size := ⟨_, rfl⟩
                have HCN := Lib.hid (show y15.cell? ⟨gN, 0, none⟩ = some (.slice (some ⟨gR, 0, none⟩) n cR) by rw [hy9, hgN]; simp)
                rw [← hgN, ← hy9]
                replace XR := Lib.hid (XR.out.trans gg)
                replace OR := Lib.hid (OR.out.ext gg)
                have Y15 := Lib.hid (Y11.out.trans gg)
                clear hgN hy9 gg
                refine stepsI_one (i := 1) (HJ.out _ (Y15.out.cell D0.out) (Y15.out.cell D1.out)) (by kernel_rfl) ?_
                have q2 := Y15.out.cell TW.out.c2
                refine op_value (v := ?_) (w' := y15) (some 43) rfl rfl rfl ?_ ?_
                rotate_left
                · go_simp; rfl
                simp only [Act.put, List.setIfInBounds_toArray, List.set_cons_zero, List.set_cons_succ]
                clear q2
                refine stepsI_one (i := 7) (HJ.out _ (Y15.out.cell D0.out) (Y15.out.cell D1.out)) (by kernel_rfl) ?_
                obtain ⟨gZ, cZ, y16, hr9, ho9, hg9, _, _⟩ := run_pushR_at (c := cR) OC5.out XR.out HCN.out OR.out (by omega) HB5.out 25
                refine op_append (some 49) rfl rfl rfl rfl (.tmp 43) (.tmp 48) rfl rfl rfl hr9 ?_
                simp only [Act.put, List.setIfInBounds_toArray, List.set_cons_zero, List.set_cons_succ]
                have OZ := Lib.hid ho9
                have hblk : ∀ z, (Value.slice aC k cC).ownBlock = some z → L6 ≤ z := OC.out.blk
                have TW7 := Lib.hid ((TW.out.ext Y15.out).block (hg9.block gT (TW.out.ext Y15.out).lt (fun e => by have := hblk gT e.symm; omega)))
                have WW7 := Lib.hid ((WW.out.trans (WroteIn.ofExt Y15.out)).grown hg9 (fun z hz => by rw [← HL6.out]; exact hblk z hz))
                have D0' := Lib.hid (WW7.out.cell C0.out (.inl hOT))
                have D1' := Lib.hid (WW7.out.cell C1.out (.inl hOT))
                clear hr9 ho9 hg9 hblk
                refine stepsI_float (i := 8) (v := ?_) (some 50) (by kernel_rfl) rfl rfl rfl (fun w' hI => ?_) ?_
                rotate_left
                · go_simp; rfl
                simp only [Act.put, List.setIfInBounds_toArray, List.set_cons_zero, List.set_cons_succ]
                refine stepsI_one (i := 9) (HJ.out _ D0'.out D1'.out) (by kernel_rfl) ?_
                have q2 := TW7.out.c2
                have q5 := TW7.out.f2
                obtain ⟨y17, hy9⟩ : ∃ z, z = y16.setCell ⟨gT, 2, none⟩ (.slice (some ⟨gZ, 0, none⟩) (k + 1) cZ) := ⟨_, rfl⟩
                refine op_skip (w' := y17) rfl rfl (by rw [hy9]; go_simp) ?_
                simp only [Act.put]
                clear q2 q5
                have WW8 := Lib.hid (WW7.out.trans (show WroteIn gT (gT + 1) y16 y17 by rw [hy9]; exact WroteIn.setCell))
                have TW8 := Lib.hid (show TrAt y17 gT (.slice (some ⟨gA, 0, none⟩) n cA) (.slice (some ⟨gB, 0, none⟩) n cB) (.slice (some ⟨gZ, 0, none⟩) (k + 1) cZ) by rw [hy9]; exact TW7.out.set2 _)
                have OZ8 := Lib.hid (show OwnR L6 y17 (some ⟨gZ, 0, none⟩) (k + 1) cZ (negM p (pureS p st d n x) n (k + 1)) by rw [hy9, negM_succ]; exact (WroteIn.setCell (O := gT)).rowsR OZ.out hTL)
                refine stepsI_end (HJ.out _ (WW8.out.cell C0.out (.inl hOT)) (WW8.out.cell C1.out (.inl hOT))) (by kernel_rfl) ?_
                clear hy9
                go_wp2_with (fail)
                go_roundw
                case rel => exact ⟨k + 1, some ⟨gZ, 0, none⟩, cZ, by omega, by go_num, TW8, OZ8, WW8⟩
                case measure => simp [intOf]; omega
        · obtain rfl : k = n := by omega
          have HTR := Lib.hid (TR.out.wrote WW.out (.inl hO1T))
          have r0 := HTR.out.c0
          have r1 := HTR.out.c1
          have r2 := HTR.out.c2
          have f0 := HTR.out.f0
          have f1 := HTR.out.f1
          have f2 := HTR.out.f2
          have t0 := TW.out.c0
          have t1 := TW.out.c1
          have t2 := TW.out.c2
          have HOL := Lib.hid (show w.heap.size ≤ O + 1 by have := HO.out; omega)
          have hT0 : w.heap.size ≤ gT := by have := HO.out; omega
          have OA9 := Lib.hid (WW.out.ownR OA.out hTA9)
          have OB9 := Lib.hid (WW.out.ownR OB.out hTB9)
          have E9 := Lib.hid (WW.out.ext E.out hT0)
          go_wp2_with (fail)
          refine bodyPost_ret (v := .tuple #[.agg #[.slice (some ⟨gA, 0, none⟩) k cA, .slice (some ⟨gB, 0, none⟩) k cB, .slice aC k cC], .int .i64 0]) (by simp [results, Try.results19, go_sem, r0, r1, r2]) rfl ⟨_, rfl, ⟨_, _, _, _, _, _, loA, hiA, loB, hiB, L6, wr.heap.size, rfl, ?_, hlA, hAB, hlB, hBL, hSZ, WroteIn.set3.size, ?_, ?_, ?_⟩, WroteIn.set3.ext E9.out HOL.out⟩
          · have := HO.out; omega
          · exact WroteIn.set3.ownR OA9.out (.inr (by omega))
          · exact WroteIn.set3.ownR OB9.out (.inr (by omega))
          · exact WroteIn.set3.ownR OC.out.high (.inr (by omega))
    · skip
      refine op_value (v := .pointer (some ⟨u1.heap.size, 0, none⟩)) (w' := u1.alloc (.cells #[.slice none 0 0, .slice none 0 0, .slice none 0 0] 38)) (some 7) rfl rfl rfl (by go_simp) ?_
      simp only [Act.put, List.setIfInBounds_toArray, List.set_cons_zero, List.set_cons_succ]
      have TT := Lib.hid (trAt_new u1 (.slice none 0 0) (.slice none 0 0) (.slice none 0 0) 38)
      obtain ⟨u5, hu9⟩ : ∃ z, z = u1.alloc (.cells #[.slice none 0 0, .slice none 0 0, .slice none 0 0] 38) := ⟨_, rfl⟩
      have gg : Ext u1 u5 := by rw [hu9]; exact ext_alloc _ _
      rw [← hu9] at TT
      rw [← hu9]
      have HTZ : Hid (u5.heap.size = u1.heap.size + 1) := Lib.hid (by rw [hu9]; simp)
      obtain ⟨gT, hgT⟩ : ∃ z, z = u1.heap.size := ⟨_, rfl⟩
      have hsT : v0.heap.size ≤ gT := by rw [hgT]; exact X1.out.size'
      rw [← hgT] at TT
      rw [← hgT]
      have HTG := Lib.hid hgT
      clear hu9 hgT
      replace OA := Lib.hid (OA.out.ext gg)
      have X5 := Lib.hid (X1.out.trans gg)
      clear gg
      refine stepsI_one (i := 5) (HJ.out _ (X5.out.cell C0.out) (X5.out.cell C1.out)) (by kernel_rfl) ?_
      refine op_call (f := ?_) (args := ?_) (R := fun v w' => ∃ g c, v = .slice (some ⟨g, 0, none⟩) n c ∧ OwnR u5.heap.size w' (some ⟨g, 0, none⟩) n c (pureB p st d n x) ∧ Ext u5 w') (some 28) rfl rfl rfl ?_ ?_ ?_
      rotate_left 2
      · go_simp; refine ⟨?_, ?_⟩ <;> rfl
      · refine Calls.mono (c_dright p a d st (some ⟨bx, ox, none⟩) n x u5 HN.out (by omega) (by omega) (by omega) (Nat.le_refl _) (Nat.le_refl _) (HQ.out.ext X5.out) HGS.out (HX.out.ext X5.out) HGX.out) ?_
        rintro e w9 ⟨g9, c9, rfl, ho9, g9'⟩
        exact ⟨_, rfl, g9, c9, rfl, ho9, g9'⟩
      rintro v u6 ⟨gB, cB, rfl, ho9, gg⟩
      simp only [Act.put, List.setIfInBounds_toArray, List.set_cons_zero, List.set_cons_succ]
      replace OA := Lib.hid (OA.out.ext gg)
      replace TT := Lib.hid (TT.out.ext gg)
      have X6 := Lib.hid (X5.out.trans gg)
      have OB := Lib.hid ho9.high
      have hlB := gg.size'
      obtain ⟨loB, hloB⟩ : ∃ z, z = u5.heap.size := ⟨_, rfl⟩
      obtain ⟨hiB, hhiB⟩ : ∃ z, z = u6.heap.size := ⟨_, rfl⟩
      have hsB : v0.heap.size ≤ loB := by rw [hloB]; exact X5.out.size'
      rw [← hloB] at OB hlB
      rw [← hhiB] at OB hlB
      have HLB := Lib.hid hloB
      have HHB := Lib.hid hhiB
      clear ho9 gg hloB hhiB
      refine stepsI_float (i := 6) (v := ?_) (some 29) (by kernel_rfl) rfl rfl rfl (fun w' hI => ?_) ?_
      rotate_left
      · go_simp; rfl
      simp only [Act.put, List.setIfInBounds_toArray, List.set_cons_zero, List.set_cons_succ]
      refine stepsI_one (i := 8) (HJ.out _ (X6.out.cell C0.out) (X6.out.cell C1.out)) (by kernel_rfl) ?_
      have hz9 := HTZ.out
      have hAB : hiA ≤ loB := by rw [HHA.out, HLB.out]; omega
      have hTA : hiA ≤ gT ∨ gT + 1 ≤ loA := .inl (by rw [HHA.out, HTG.out]; exact Nat.le_refl _)
      have hTB : hiB ≤ gT ∨ gT + 1 ≤ loB := .inr (by rw [HLB.out, HTG.out]; omega)
      clear hz9
      have hBU : hiB ≤ u6.heap.size := by rw [HHB.out]; exact Nat.le_refl _
      obtain ⟨u7, hu9⟩ : ∃ z, z = (((u6.setCell ⟨gT, 0, none⟩ (.slice (some ⟨gA, 0, none⟩) n cA)).setCell ⟨gT, 1, none⟩ (.slice (some ⟨gB, 0, none⟩) n cB)).setCell ⟨gT, 2, none⟩ (.slice none 0 0)) := ⟨_, rfl⟩
      have q0 := TT.out.c0
      have q1 := TT.out.c1
      have q2 := TT.out.c2
      have q3 := TT.out.f0
      have q4 := TT.out.f1
      have q5 := TT.out.f2
      refine op_skip (w' := u7) rfl rfl (by rw [hu9]; go_simp) ?_
      simp only [Act.put]
      clear q0 q1 q2 q3 q4 q5
      have WW : WroteIn gT (gT + 1) u6 u7 := by rw [hu9]; exact WroteIn.set3
      have gg : Ext v0 u7 := WW.ext X6.out hsT
      have TT2 := Lib.hid (show TrAt u7 gT (.slice (some ⟨gA, 0, none⟩) n cA) (.slice (some ⟨gB, 0, none⟩) n cB) (.slice none 0 0) by rw [hu9]; exact TT.out.set3)
      replace OA := Lib.hid (WW.ownR OA.out hTA)
      replace OB := Lib.hid (WW.ownR OB.out hTB)
      have hBU2 : hiB ≤ u7.heap.size := Nat.le_trans hBU WW.size
      have hgO : O < v0.heap.size := lt_of_cell C0.out
      have hOT : O < gT := by omega
      have hO1T : O + 1 < gT := by have := TR.out.lt; omega
      have hO2 : O + 2 ≤ v0.heap.size := TR.out.lt
      have hTA9 := hTA
      have hTB9 := hTB
      clear hu9 WW TT HHA HLA HHB HLB HTG HTZ hTA hTB hBU
      refine stepsI_end (HJ.out _ (gg.cell C0.out) (gg.cell C1.out)) (by kernel_rfl) ?_
      replace E := Lib.hid (E.out.trans gg)
      replace HQ := Lib.hid (HQ.out.ext gg)
      replace HX := Lib.hid (HX.out.ext gg)
      replace TR := Lib.hid (TR.out.ext gg)
      replace C0 := Lib.hid (gg.cell (p := ⟨O, 0, none⟩) C0.out)
      replace C1 := Lib.hid (gg.cell (p := ⟨O, 1, none⟩) C1.out)
      clear gg
      have TT := TT2
      clear TT2
      have x00 := C0.out
      have x01 := C1.out
      go_wp2_with (fail)
      clear x00 x01
      have HT9 := Lib.hid (show gT + 1 ≤ u7.drew.heap.size from TT.out.lt)
      replace E := Lib.hid (E.out.trans (ext_drew u7))
      replace HQ := Lib.hid (HQ.out.ext (ext_drew u7))
      replace HX := Lib.hid (HX.out.ext (ext_drew u7))
      replace TR := Lib.hid (TR.out.ext (ext_drew u7))
      replace TT := Lib.hid (TT.out.ext (ext_drew u7))
      replace OA := Lib.hid (OA.out.ext (ext_drew u7))
      replace OB := Lib.hid (OB.out.ext (ext_drew u7))
      replace C0 := Lib.hid ((ext_drew u7).cell (p := ⟨O, 0, none⟩) C0.out)
      replace C1 := Lib.hid ((ext_drew u7).cell (p := ⟨O, 1, none⟩) C1.out)
      refine wp_region_lex [(1, .val (.int .i64 p)), (6, .ownR (gT + 1) n (pureS p st d n x))] (by kernel_rfl) (by kernel_rfl) ?_
      (refine LexW.pure (v := ?_) rfl rfl (fun w1 he => ?_) ?_; rotate_left; ( have x00 := (he.cell (p := ⟨O, 0, none⟩) C0.out); have x01 := (he.cell (p := ⟨O, 1, none⟩) C1.out); have t0 := he.cell TT.out.c0; have t1 := he.cell TT.out.c1; go_simp; rfl); simp only [Act.put, List.setIfInBounds_toArray, List.set_cons_zero, List.set_cons_succ])
      (refine LexW.call (f := ?_) (args := ?_) rfl rfl (fun w1 => ?_) (fun w1 he hdep => ?_) ?_; rotate_left 2; (go_simp; refine ⟨?_, ?_⟩ <;> rfl); ( exact c_dfield p (.slice a d d) w1); simp only [Act.put, List.setIfInBounds_toArray, List.set_cons_zero, List.set_cons_succ])
      (refine LexW.pure (v := ?_) rfl rfl (fun w1 he => ?_) ?_; rotate_left; ( have x00 := (he.cell (p := ⟨O, 0, none⟩) C0.out); have x01 := (he.cell (p := ⟨O, 1, none⟩) C1.out); have t0 := he.cell TT.out.c0; have t1 := he.cell TT.out.c1; go_simp; rfl); simp only [Act.put, List.setIfInBounds_toArray, List.set_cons_zero, List.set_cons_succ])
      (refine LexW.pure (v := ?_) rfl rfl (fun w1 he => ?_) ?_; rotate_left; ( have x00 := (he.cell (p := ⟨O, 0, none⟩) C0.out); have x01 := (he.cell (p := ⟨O, 1, none⟩) C1.out); have t0 := he.cell TT.out.c0; have t1 := he.cell TT.out.c1; go_simp; rfl); simp only [Act.put, List.setIfInBounds_toArray, List.set_cons_zero, List.set_cons_succ])
      (refine LexW.pure (v := ?_) rfl rfl (fun w1 he => ?_) ?_; rotate_left; ( have x00 := (he.cell (p := ⟨O, 0, none⟩) C0.out); have x01 := (he.cell (p := ⟨O, 1, none⟩) C1.out); have t0 := he.cell TT.out.c0; have t1 := he.cell TT.out.c1; go_simp; rfl); simp only [Act.put, List.setIfInBounds_toArray, List.set_cons_zero, List.set_cons_succ])
      (refine LexW.pure (v := ?_) rfl rfl (fun w1 he => ?_) ?_; rotate_left; ( have x00 := (he.cell (p := ⟨O, 0, none⟩) C0.out); have x01 := (he.cell (p := ⟨O, 1, none⟩) C1.out); have t0 := he.cell TT.out.c0; have t1 := he.cell TT.out.c1; go_simp; rfl); simp only [Act.put, List.setIfInBounds_toArray, List.set_cons_zero, List.set_cons_succ])
      (refine LexW.callR (f := ?_) (args := ?_) rfl rfl (fun w1 => ?_) (fun w1 he hdep => ?_) (fun v hv => ?_); rotate_left 2; (go_simp; refine ⟨?_, ?_⟩ <;> rfl); ( refine (c_sum p _ _ n n cA cB (pureA p st d n x) (pureB p st d n x) 1 w1 (by omega) (by omega) (by omega) (by omega) (by omega) (OA.out.low.rd.ext he) (OB.out.low.rd.ext he) HGA.out HGB.out).mono ?_; rintro e w2 ⟨g, rc, rfl, ho, g2⟩; exact ⟨_, rfl, g2, g, rc, rfl, ho.mono (Nat.le_trans HT9.out he.size)⟩); simp only [Act.put, List.setIfInBounds_toArray, List.set_cons_zero, List.set_cons_succ])
      obtain ⟨_, g36, c36, rfl, _⟩ := hv
      (refine LexW.pure (v := ?_) rfl rfl (fun w1 he => ?_) ?_; rotate_left; ( have x00 := (he.cell (p := ⟨O, 0, none⟩) C0.out); have x01 := (he.cell (p := ⟨O, 1, none⟩) C1.out); have t0 := he.cell TT.out.c0; have t1 := he.cell TT.out.c1; go_simp; rfl); simp only [Act.put, List.setIfInBounds_toArray, List.set_cons_zero, List.set_cons_succ])
      (refine LexW.pure (v := ?_) rfl rfl (fun w1 he => ?_) ?_; rotate_left; ( have x00 := (he.cell (p := ⟨O, 0, none⟩) C0.out); have x01 := (he.cell (p := ⟨O, 1, none⟩) C1.out); have t0 := he.cell TT.out.c0; have t1 := he.cell TT.out.c1; go_simp; rfl); simp only [Act.put, List.setIfInBounds_toArray, List.set_cons_zero, List.set_cons_succ])
      refine LexW.nil (fun w3 he hkn => ?_)
      obtain ⟨_, _, q36, r36⟩ : (SPred.ownR (gT + 1) n (pureS p st d n x)).holds (.slice (some ⟨g36, 0, none⟩) n c36) w3 := hkn (6, _) (by simp)
      cases q36
      have R36 := Lib.hid r36
      have HE := Lib.hid he
      have HS9 := Lib.hid he.size
      clear he hkn r36
      rename World => v4
      replace E := Lib.hid (E.out.trans HE.out)
      replace HQ := Lib.hid (HQ.out.ext HE.out)
      replace HX := Lib.hid (HX.out.ext HE.out)
      replace TR := Lib.hid (TR.out.ext HE.out)
      replace TT := Lib.hid (TT.out.ext HE.out)
      replace OA := Lib.hid (OA.out.ext HE.out)
      replace OB := Lib.hid (OB.out.ext HE.out)
      replace C0 := Lib.hid (HE.out.cell (p := ⟨O, 0, none⟩) C0.out)
      replace C1 := Lib.hid (HE.out.cell (p := ⟨O, 1, none⟩) C1.out)
      clear HE
      obtain ⟨L6, hL6⟩ : ∃ z, z = v4.heap.size := ⟨_, rfl⟩
      have HL6 := Lib.hid hL6
      have hTL : gT < L6 := by rw [hL6]; exact TT.out.lt
      have hBL : hiB ≤ L6 := by rw [hL6]; exact Nat.le_trans hBU2 HS9.out
      clear hL6 HT9 HS9
      have x00 := C0.out
      have x01 := C1.out
      go_wp2_with (fail)
      clear x00 x01
      go_loopw [38] (fun i wr => ∃ (k : Nat) (aC : Option Addr) (cC : Nat), k ≤ n ∧ i = .int .i64 k ∧ Hid (TrAt wr gT (.slice (some ⟨gA, 0, none⟩) n cA) (.slice (some ⟨gB, 0, none⟩) n cB) (.slice aC k cC)) ∧ Hid (OwnR L6 wr aC k cC (negM p (pureS p st d n x) n k)) ∧ Hid (WroteIn gT (gT + 1) v4 wr)) (fun i _ => n - (intOf i).toNat)
      case atStart => exact ⟨0, none, 0, Nat.zero_le _, rfl, TT, Lib.hid (OwnR.nil _ _), Lib.hid (WroteIn.refl _ _ _)⟩
      case round =>
        rename World => wr
        obtain ⟨k, aC, cC, hk, rfl, TW, OC, WW⟩ := hrel
        have hSZ : L6 ≤ wr.heap.size := by rw [HL6.out]; exact WW.out.size
        have D0 := Lib.hid (WW.out.cell C0.out (.inl hOT))
        have D1 := Lib.hid (WW.out.cell C1.out (.inl hOT))
        have RS := Lib.hid (WW.out.rowsR R36.out (Nat.lt_succ_self _))
        by_cases hkn : k < n
        · skip
          obtain ⟨bS, oS, aK, cK, hab, hcS, hrS⟩ := RS.out.rd.2 k hkn
          simp only [Option.some.injEq, Addr.mk.injEq, and_true] at hab
          obtain ⟨rfl, rfl⟩ := hab
          have hgS := HGC.out k (by rw [RS.out.rd.1]; exact hkn)
          rw [hgS.1] at hcS hrS
          have HGK := Lib.hid hgS
          have HRK := Lib.hid hrS
          have sc := hcS
          rw [Nat.zero_add] at sc
          clear hcS hrS hgS RS
          go_wp2_with (fail)
          clear sc
          obtain ⟨y0, hy0⟩ : ∃ z, z = wr.drew := ⟨_, rfl⟩
          have HY0 := Lib.hid hy0
          have Y0 := Lib.hid (show Ext wr y0 by rw [hy0]; exact ext_drew _)
          refine wp_region_steps 10 J (by kernel_rfl) rfl ?_
          rw [← HY0.out]
          clear hy0 HY0
          refine stepsI_float (i := 0) (v := ?_) (some 42) (by kernel_rfl) rfl rfl rfl (fun w' hI => ?_) ?_
          rotate_left
          · go_simp; rfl
          simp only [Act.put, List.setIfInBounds_toArray, List.set_cons_zero, List.set_cons_succ]
          refine stepsI_float (i := 2) (v := ?_) (some 44) (by kernel_rfl) rfl rfl rfl (fun w' hI => ?_) ?_
          rotate_left
          · obtain ⟨e0, e1⟩ := HJ2.out w' hI; go_simp; rfl
          simp only [Act.put, List.setIfInBounds_toArray, List.set_cons_zero, List.set_cons_succ]
          refine stepsI_float (i := 4) (v := ?_) (some 46) (by kernel_rfl) rfl rfl rfl (fun w' hI => ?_) ?_
          rotate_left
          · go_simp; rfl
          simp only [Act.put, List.setIfInBounds_toArray, List.set_cons_zero, List.set_cons_succ]
          refine stepsI_two (i := 1) (k := 3) (HJ.out _ (Y0.out.cell D0.out) (Y0.out.cell D1.out)) (by kernel_rfl) ?_ ?_
          · skip
            have q2 := Y0.out.cell TW.out.c2
            refine op_value (v := ?_) (w' := y0) (some 43) rfl rfl rfl ?_ ?_
            rotate_left
            · go_simp; rfl
            simp only [Act.put, List.setIfInBounds_toArray, List.set_cons_zero, List.set_cons_succ]
            clear q2
            refine stepsI_one (i := 3) (HJ.out _ (Y0.out.cell D0.out) (Y0.out.cell D1.out)) (by kernel_rfl) ?_
            refine op_call (f := ?_) (args := ?_) (R := fun v w' => v = .int .i64 p ∧ Ext wr w') (some 45) rfl rfl rfl ?_ ?_ ?_
            rotate_left 2
            · go_simp; refine ⟨?_, ?_⟩ <;> rfl
            · refine Calls.mono (c_dfield p (.slice a d d) y0) ?_
              rintro e w9 ⟨rfl, g9⟩
              exact ⟨_, rfl, rfl, Y0.out.trans g9⟩
            rintro v y1 ⟨rfl, g9⟩
            simp only [Act.put, List.setIfInBounds_toArray, List.set_cons_zero, List.set_cons_succ]
            have Y1 := Lib.hid g9
            clear g9
            refine stepsI_one (i := 5) (HJ.out _ (Y1.out.cell D0.out) (Y1.out.cell D1.out)) (by kernel_rfl) ?_
            refine op_call (f := ?_) (args := ?_) (R := fun v w' => ∃ g c, v = .slice (some ⟨g, 0, none⟩) n c ∧ OwnC y1.heap.size w' (some ⟨g, 0, none⟩) n c (scaleL p (nthR (pureS p st d n x) k) (-1) n) ∧ Ext y1 w') (some 47) rfl rfl rfl ?_ ?_ ?_
            rotate_left 2
            · go_simp; refine ⟨?_, ?_⟩ <;> rfl
            · refine Calls.mono (c_scaled p aK n cK (nthR (pureS p st d n x) k) (-1) y1 (by omega) (by omega) (by omega) (by omega) (HRK.out.ext Y1.out) HGK.out) ?_
              rintro e w9 ⟨g9, c9, rfl, ho9, g9'⟩
              exact ⟨_, rfl, g9, c9, rfl, ho9, g9'⟩
            rintro v y2 ⟨gR, cR, rfl, ho9, g9⟩
            simp only [Act.put, List.setIfInBounds_toArray, List.set_cons_zero, List.set_cons_succ]
            have OR := Lib.hid ho9
            have Y2 := Lib.hid (Y1.out.trans g9)
            have XR := Lib.hid g9
            have OC5 := Lib.hid (OC.out.ext Y1.out)
            have HB5 := Lib.hid (show L6 ≤ y1.heap.size from Nat.le_trans hSZ Y1.out.size')
            clear ho9 g9
            refine stepsI_one (i := 6) (HJ.out _ (Y2.out.cell D0.out) (Y2.out.cell D1.out)) (by kernel_rfl) ?_
            refine op_value (v := .slice (some ⟨y2.heap.size, 0, none⟩) 1 1) (w' := y2.alloc (.cells #[.slice (some ⟨gR, 0, none⟩) n cR] 22)) (some 48) rfl rfl rfl (by go_simp) ?_
            simp only [Act.put, List.setIfInBounds_toArray, List.set_cons_zero, List.set_cons_succ]
            obtain ⟨y3, hy9⟩ : ∃ z, z = y2.alloc (.cells #[.slice (some ⟨gR, 0, none⟩) n cR] 22) := ⟨_, rfl⟩
            have gg : Ext y2 y3 := by rw [hy9]; exact ext_alloc _ _
            obtain ⟨gN, hgN⟩ : ∃ z, z = y2.heap.size := ⟨_, rfl⟩
            have HCN := Lib.hid (show y3.cell? ⟨gN, 0, none⟩ = some (.slice (some ⟨gR, 0, none⟩) n cR) by rw [hy9, hgN]; simp)
            rw [← hgN, ← hy9]
            replace XR := Lib.hid (XR.out.trans gg)
            replace OR := Lib.hid (OR.out.ext gg)
            have Y3 := Lib.hid (Y2.out.trans gg)
            clear hgN hy9 gg
            refine stepsI_one (i := 7) (HJ.out _ (Y3.out.cell D0.out) (Y3.out.cell D1.out)) (by kernel_rfl) ?_
            obtain ⟨gZ, cZ, y4, hr9, ho9, hg9, _, _⟩ := run_pushR_at (c := cR) OC5.out XR.out HCN.out OR.out (by omega) HB5.out 25
            refine op_append (some 49) rfl rfl rfl rfl (.tmp 43) (.tmp 48) rfl rfl rfl hr9 ?_
            simp only [Act.put, List.setIfInBounds_toArray, List.set_cons_zero, List.set_cons_succ]
            have OZ := Lib.hid ho9
            have hblk : ∀ z, (Value.slice aC k cC).ownBlock = some z → L6 ≤ z := OC.out.blk
            have TW7 := Lib.hid ((TW.out.ext Y3.out).block (hg9.block gT (TW.out.ext Y3.out).lt (fun e => by have := hblk gT e.symm; omega)))
            have WW7 := Lib.hid ((WW.out.trans (WroteIn.ofExt Y3.out)).grown hg9 (fun z hz => by rw [← HL6.out]; exact hblk z hz))
            have D0' := Lib.hid (WW7.out.cell C0.out (.inl hOT))
            have D1' := Lib.hid (WW7.out.cell C1.out (.inl hOT))
            clear hr9 ho9 hg9 hblk
            refine stepsI_float (i := 8) (v := ?_) (some 50) (by kernel_rfl) rfl rfl rfl (fun w' hI => ?_) ?_
            rotate_left
            · go_simp; rfl
            simp only [Act.put, List.setIfInBounds_toArray, List.set_cons_zero, List.set_cons_succ]
            refine stepsI_one (i := 9) (HJ.out _ D0'.out D1'.out) (by kernel_rfl) ?_
            have q2 := TW7.out.c2
            have q5 := TW7.out.f2
            obtain ⟨y5, hy9⟩ : ∃ z, z = y4.setCell ⟨gT, 2, none⟩ (.slice (some ⟨gZ, 0, none⟩) (k + 1) cZ) := ⟨_, rfl⟩
            refine op_skip (w' := y5) rfl rfl (by rw [hy9]; go_simp) ?_
            simp only [Act.put]
            clear q2 q5
            have WW8 := Lib.hid (WW7.out.trans (show WroteIn gT (gT + 1) y4 y5 by rw [hy9]; exact WroteIn.setCell))
            have TW8 := Lib.hid (show TrAt y5 gT (.slice (some ⟨gA, 0, none⟩) n cA) (.slice (some ⟨gB, 0, none⟩) n cB) (.slice (some ⟨gZ, 0, none⟩) (k + 1) cZ) by rw [hy9]; exact TW7.out.set2 _)
            have OZ8 := Lib.hid (show OwnR L6 y5 (some ⟨gZ, 0, none⟩) (k + 1) cZ (negM p (pureS p st d n x) n (k + 1)) by rw [hy9, negM_succ]; exact (WroteIn.setCell (O := gT)).rowsR OZ.out hTL)
            refine stepsI_end (HJ.out _ (WW8.out.cell C0.out (.inl hOT)) (WW8.out.cell C1.out (.inl hOT))) (by kernel_rfl) ?_
            clear hy9
            go_wp2_with (fail)
            go_roundw
            case rel => exact ⟨k + 1, some ⟨gZ, 0, none⟩, cZ, by omega, by go_num, TW8, OZ8, WW8⟩
            case measure => simp [intOf]; omega
          · skip
            refine op_call (f := ?_) (args := ?_) (R := fun v w' => v = .int .i64 p ∧ Ext wr w') (some 45) rfl rfl rfl ?_ ?_ ?_
            rotate_left 2
            · go_simp; refine ⟨?_, ?_⟩ <;> rfl
            · refine Calls.mono (c_dfield p (.slice a d d) y0) ?_
              rintro e w9 ⟨rfl, g9⟩
              exact ⟨_, rfl, rfl, Y0.out.trans g9⟩
            rintro v y6 ⟨rfl, g9⟩
            simp only [Act.put, List.setIfInBounds_toArray, List.set_cons_zero, List.set_cons_succ]
            have Y6 := Lib.hid g9
            clear g9
            refine stepsI_two (i := 1) (k := 5) (HJ.out _ (Y6.out.cell D0.out) (Y6.out.cell D1.out)) (by kernel_rfl) ?_ ?_
            · skip
              have q2 := Y6.out.cell TW.out.c2
              refine op_value (v := ?_) (w' := y6) (some 43) rfl rfl rfl ?_ ?_
              rotate_left
              · go_simp; rfl
              simp only [Act.put, List.setIfInBounds_toArray, List.set_cons_zero, List.set_cons_succ]
              clear q2
              refine stepsI_one (i := 5) (HJ.out _ (Y6.out.cell D0.out) (Y6.out.cell D1.out)) (by kernel_rfl) ?_
              refine op_call (f := ?_) (args := ?_) (R := fun v w' => ∃ g c, v = .slice (some ⟨g, 0, none⟩) n c ∧ OwnC y6.heap.size w' (some ⟨g, 0, none⟩) n c (scaleL p (nthR (pureS p st d n x) k) (-1) n) ∧ Ext y6 w') (some 47) rfl rfl rfl ?_ ?_ ?_
              rotate_left 2
              · go_simp; refine ⟨?_, ?_⟩ <;> rfl
              · refine Calls.mono (c_scaled p aK n cK (nthR (pureS p st d n x) k) (-1) y6 (by omega) (by omega) (by omega) (by omega) (HRK.out.ext Y6.out) HGK.out) ?_
                rintro e w9 ⟨g9, c9, rfl, ho9, g9'⟩
                exact ⟨_, rfl, g9, c9, rfl, ho9, g9'⟩
              rintro v y7 ⟨gR, cR, rfl, ho9, g9⟩
              simp only [Act.put, List.setIfInBounds_toArray, List.set_cons_zero, List.set_cons_succ]
              have OR := Lib.hid ho9
              have Y7 := Lib.hid (Y6.out.trans g9)
              have XR := Lib.hid g9
              have OC5 := Lib.hid (OC.out.ext Y6.out)
              have HB5 := Lib.hid (show L6 ≤ y6.heap.size from Nat.le_trans hSZ Y6.out.size')
              clear ho9 g9
              refine stepsI_one (i := 6) (HJ.out _ (Y7.out.cell D0.out) (Y7.out.cell D1.out)) (by kernel_rfl) ?_
              refine op_value (v := .slice (some ⟨y7.heap.size, 0, none⟩) 1 1) (w' := y7.alloc (.cells #[.slice (some ⟨gR, 0, none⟩) n cR] 22)) (some 48) rfl rfl rfl (by go_simp) ?_
              simp only [Act.put, List.setIfInBounds_toArray, List.set_cons_zero, List.set_cons_succ]
              obtain ⟨y8, hy9⟩ : ∃ z, z = y7.alloc (.cells #[.slice (some ⟨gR, 0, none⟩) n cR] 22) := ⟨_, rfl⟩
              have gg : Ext y7 y8 := by rw [hy9]; exact ext_alloc _ _
              obtain ⟨gN, hgN⟩ : ∃ z, z = y7.heap.size := ⟨_, rfl⟩
              have HCN := Lib.hid (show y8.cell? ⟨gN, 0, none⟩ = some (.slice (some ⟨gR, 0, none⟩) n cR) by rw [hy9, hgN]; simp)
              rw [← hgN, ← hy9]
              replace XR := Lib.hid (XR.out.trans gg)
              replace OR := Lib.hid (OR.out.ext gg)
              have Y8 := Lib.hid (Y7.out.trans gg)
              clear hgN hy9 gg
              refine stepsI_one (i := 7) (HJ.out _ (Y8.out.cell D0.out) (Y8.out.cell D1.out)) (by kernel_rfl) ?_
              obtain ⟨gZ, cZ, y9, hr9, ho9, hg9, _, _⟩ := run_pushR_at (c := cR) OC5.out XR.out HCN.out OR.out (by omega) HB5.out 25
              refine op_append (some 49) rfl rfl rfl rfl (.tmp 43) (.tmp 48) rfl rfl rfl hr9 ?_
              simp only [Act.put, List.setIfInBounds_toArray, List.set_cons_zero, List.set_cons_succ]
              have OZ := Lib.hid ho9
              have hblk : ∀ z, (Value.slice aC k cC).ownBlock = some z → L6 ≤ z := OC.out.blk
              have TW7 := Lib.hid ((TW.out.ext Y8.out).block (hg9.block gT (TW.out.ext Y8.out).lt (fun e => by have := hblk gT e.symm; omega)))
              have WW7 := Lib.hid ((WW.out.trans (WroteIn.ofExt Y8.out)).grown hg9 (fun z hz => by rw [← HL6.out]; exact hblk z hz))
              have D0' := Lib.hid (WW7.out.cell C0.out (.inl hOT))
              have D1' := Lib.hid (WW7.out.cell C1.out (.inl hOT))
              clear hr9 ho9 hg9 hblk
              refine stepsI_float (i := 8) (v := ?_) (some 50) (by kernel_rfl) rfl rfl rfl (fun w' hI => ?_) ?_
              rotate_left
              · go_simp; rfl
              simp only [Act.put, List.setIfInBounds_toArray, List.set_cons_zero, List.set_cons_succ]
              refine stepsI_one (i := 9) (HJ.out _ D0'.out D1'.out) (by kernel_rfl) ?_
              have q2 := TW7.out.c2
              have q5 := TW7.out.f2
              obtain ⟨y10, hy9⟩ : ∃ z, z = y9.setCell ⟨gT, 2, none⟩ (.slice (some ⟨gZ, 0, none⟩) (k + 1) cZ) := ⟨_, rfl⟩
              refine op_skip (w' := y10) rfl rfl (by rw [hy9]; go_simp) ?_
              simp only [Act.put]
              clear q2 q5
              have WW8 := Lib.hid (WW7.out.trans (show WroteIn gT (gT + 1) y9 y10 by rw [hy9]; exact WroteIn.setCell))
              have TW8 := Lib.hid (show TrAt y10 gT (.slice (some ⟨gA, 0, none⟩) n cA) (.slice (some ⟨gB, 0, none⟩) n cB) (.slice (some ⟨gZ, 0, none⟩) (k + 1) cZ) by rw [hy9]; exact TW7.out.set2 _)
              have OZ8 := Lib.hid (show OwnR L6 y10 (some ⟨gZ, 0, none⟩) (k + 1) cZ (negM p (pureS p st d n x) n (k + 1)) by rw [hy9, negM_succ]; exact (WroteIn.setCell (O := gT)).rowsR OZ.out hTL)
              refine stepsI_end (HJ.out _ (WW8.out.cell C0.out (.inl hOT)) (WW8.out.cell C1.out (.inl hOT))) (by kernel_rfl) ?_
              clear hy9
              go_wp2_with (fail)
              go_roundw
              case rel => exact ⟨k + 1, some ⟨gZ, 0, none⟩, cZ, by omega, by go_num, TW8, OZ8, WW8⟩
              case measure => simp [intOf]; omega
            · skip
              refine op_call (f := ?_) (args := ?_) (R := fun v w' => ∃ g c, v = .slice (some ⟨g, 0, none⟩) n c ∧ OwnC y6.heap.size w' (some ⟨g, 0, none⟩) n c (scaleL p (nthR (pureS p st d n x) k) (-1) n) ∧ Ext y6 w') (some 47) rfl rfl rfl ?_ ?_ ?_
              rotate_left 2
              · go_simp; refine ⟨?_, ?_⟩ <;> rfl
              · refine Calls.mono (c_scaled p aK n cK (nthR (pureS p st d n x) k) (-1) y6 (by omega) (by omega) (by omega) (by omega) (HRK.out.ext Y6.out) HGK.out) ?_
                rintro e w9 ⟨g9, c9, rfl, ho9, g9'⟩
                exact ⟨_, rfl, g9, c9, rfl, ho9, g9'⟩
              rintro v y11 ⟨gR, cR, rfl, ho9, g9⟩
              simp only [Act.put, List.setIfInBounds_toArray, List.set_cons_zero, List.set_cons_succ]
              have OR := Lib.hid ho9
              have Y11 := Lib.hid (Y6.out.trans g9)
              have XR := Lib.hid g9
              have OC5 := Lib.hid (OC.out.ext Y6.out)
              have HB5 := Lib.hid (show L6 ≤ y6.heap.size from Nat.le_trans hSZ Y6.out.size')
              clear ho9 g9
              refine stepsI_two (i := 1) (k := 6) (HJ.out _ (Y11.out.cell D0.out) (Y11.out.cell D1.out)) (by kernel_rfl) ?_ ?_
              · skip
                have q2 := Y11.out.cell TW.out.c2
                refine op_value (v := ?_) (w' := y11) (some 43) rfl rfl rfl ?_ ?_
                rotate_left
                · go_simp; rfl
                simp only [Act.put, List.setIfInBounds_toArray, List.set_cons_zero, List.set_cons_succ]
                clear q2
                refine stepsI_one (i := 6) (HJ.out _ (Y11.out.cell D0.out) (Y11.out.cell D1.out)) (by kernel_rfl) ?_
                refine op_value (v := .slice (some ⟨y11.heap.size, 0, none⟩) 1 1) (w' := y11.alloc (.cells #[.slice (some ⟨gR, 0, none⟩) n cR] 22)) (some 48) rfl rfl rfl (by go_simp) ?_
                simp only [Act.put, List.setIfInBounds_toArray, List.set_cons_zero, List.set_cons_succ]
                obtain ⟨y12, hy9⟩ : ∃ z, z = y11.alloc (.cells #[.slice (some ⟨gR, 0, none⟩) n cR] 22) := ⟨_, rfl⟩
                have gg : Ext y11 y12 := by rw [hy9]; exact ext_alloc _ _
                obtain ⟨gN, hgN⟩ : ∃ z, z = y11.heap.size := ⟨_, rfl⟩
                have HCN := Lib.hid (show y12.cell? ⟨gN, 0, none⟩ = some (.slice (some ⟨gR, 0, none⟩) n cR) by rw [hy9, hgN]; simp)
                rw [← hgN, ← hy9]
                replace XR := Lib.hid (XR.out.trans gg)
                replace OR := Lib.hid (OR.out.ext gg)
                have Y12 := Lib.hid (Y11.out.trans gg)
                clear hgN hy9 gg
                refine stepsI_one (i := 7) (HJ.out _ (Y12.out.cell D0.out) (Y12.out.cell D1.out)) (by kernel_rfl) ?_
                obtain ⟨gZ, cZ, y13, hr9, ho9, hg9, _, _⟩ := run_pushR_at (c := cR) OC5.out XR.out HCN.out OR.out (by omega) HB5.out 25
                refine op_append (some 49) rfl rfl rfl rfl (.tmp 43) (.tmp 48) rfl rfl rfl hr9 ?_
                simp only [Act.put, List.setIfInBounds_toArray, List.set_cons_zero, List.set_cons_succ]
                have OZ := Lib.hid ho9
                have hblk : ∀ z, (Value.slice aC k cC).ownBlock = some z → L6 ≤ z := OC.out.blk
                have TW7 := Lib.hid ((TW.out.ext Y12.out).block (hg9.block gT (TW.out.ext Y12.out).lt (fun e => by have := hblk gT e.symm; omega)))
                have WW7 := Lib.hid ((WW.out.trans (WroteIn.ofExt Y12.out)).grown hg9 (fun z hz => by rw [← HL6.out]; exact hblk z hz))
                have D0' := Lib.hid (WW7.out.cell C0.out (.inl hOT))
                have D1' := Lib.hid (WW7.out.cell C1.out (.inl hOT))
                clear hr9 ho9 hg9 hblk
                refine stepsI_float (i := 8) (v := ?_) (some 50) (by kernel_rfl) rfl rfl rfl (fun w' hI => ?_) ?_
                rotate_left
                · go_simp; rfl
                simp only [Act.put, List.setIfInBounds_toArray, List.set_cons_zero, List.set_cons_succ]
                refine stepsI_one (i := 9) (HJ.out _ D0'.out D1'.out) (by kernel_rfl) ?_
                have q2 := TW7.out.c2
                have q5 := TW7.out.f2
                obtain ⟨y14, hy9⟩ : ∃ z, z = y13.setCell ⟨gT, 2, none⟩ (.slice (some ⟨gZ, 0, none⟩) (k + 1) cZ) := ⟨_, rfl⟩
                refine op_skip (w' := y14) rfl rfl (by rw [hy9]; go_simp) ?_
                simp only [Act.put]
                clear q2 q5
                have WW8 := Lib.hid (WW7.out.trans (show WroteIn gT (gT + 1) y13 y14 by rw [hy9]; exact WroteIn.setCell))
                have TW8 := Lib.hid (show TrAt y14 gT (.slice (some ⟨gA, 0, none⟩) n cA) (.slice (some ⟨gB, 0, none⟩) n cB) (.slice (some ⟨gZ, 0, none⟩) (k + 1) cZ) by rw [hy9]; exact TW7.out.set2 _)
                have OZ8 := Lib.hid (show OwnR L6 y14 (some ⟨gZ, 0, none⟩) (k + 1) cZ (negM p (pureS p st d n x) n (k + 1)) by rw [hy9, negM_succ]; exact (WroteIn.setCell (O := gT)).rowsR OZ.out hTL)
                refine stepsI_end (HJ.out _ (WW8.out.cell C0.out (.inl hOT)) (WW8.out.cell C1.out (.inl hOT))) (by kernel_rfl) ?_
                clear hy9
                go_wp2_with (fail)
                go_roundw
                case rel => exact ⟨k + 1, some ⟨gZ, 0, none⟩, cZ, by omega, by go_num, TW8, OZ8, WW8⟩
                case measure => simp [intOf]; omega
              · skip
                refine op_value (v := .slice (some ⟨y11.heap.size, 0, none⟩) 1 1) (w' := y11.alloc (.cells #[.slice (some ⟨gR, 0, none⟩) n cR] 22)) (some 48) rfl rfl rfl (by go_simp) ?_
                simp only [Act.put, List.setIfInBounds_toArray, List.set_cons_zero, List.set_cons_succ]
                obtain ⟨y15, hy9⟩ : ∃ z, z = y11.alloc (.cells #[.slice (some ⟨gR, 0, none⟩) n cR] 22) := ⟨_, rfl⟩
                have gg : Ext y11 y15 := by rw [hy9]; exact ext_alloc _ _
                obtain ⟨gN, hgN⟩ : ∃ z, z = y11.heap.size := ⟨_, rfl⟩
                have HCN := Lib.hid (show y15.cell? ⟨gN, 0, none⟩ = some (.slice (some ⟨gR, 0, none⟩) n cR) by rw [hy9, hgN]; simp)
                rw [← hgN, ← hy9]
                replace XR := Lib.hid (XR.out.trans gg)
                replace OR := Lib.hid (OR.out.ext gg)
                have Y15 := Lib.hid (Y11.out.trans gg)
                clear hgN hy9 gg
                refine stepsI_one (i := 1) (HJ.out _ (Y15.out.cell D0.out) (Y15.out.cell D1.out)) (by kernel_rfl) ?_
                have q2 := Y15.out.cell TW.out.c2
                refine op_value (v := ?_) (w' := y15) (some 43) rfl rfl rfl ?_ ?_
                rotate_left
                · go_simp; rfl
                simp only [Act.put, List.setIfInBounds_toArray, List.set_cons_zero, List.set_cons_succ]
                clear q2
                refine stepsI_one (i := 7) (HJ.out _ (Y15.out.cell D0.out) (Y15.out.cell D1.out)) (by kernel_rfl) ?_
                obtain ⟨gZ, cZ, y16, hr9, ho9, hg9, _, _⟩ := run_pushR_at (c := cR) OC5.out XR.out HCN.out OR.out (by omega) HB5.out 25
                refine op_append (some 49) rfl rfl rfl rfl (.tmp 43) (.tmp 48) rfl rfl rfl hr9 ?_
                simp only [Act.put, List.setIfInBounds_toArray, List.set_cons_zero, List.set_cons_succ]
                have OZ := Lib.hid ho9
                have hblk : ∀ z, (Value.slice aC k cC).ownBlock = some z → L6 ≤ z := OC.out.blk
                have TW7 := Lib.hid ((TW.out.ext Y15.out).block (hg9.block gT (TW.out.ext Y15.out).lt (fun e => by have := hblk gT e.symm; omega)))
                have WW7 := Lib.hid ((WW.out.trans (WroteIn.ofExt Y15.out)).grown hg9 (fun z hz => by rw [← HL6.out]; exact hblk z hz))
                have D0' := Lib.hid (WW7.out.cell C0.out (.inl hOT))
                have D1' := Lib.hid (WW7.out.cell C1.out (.inl hOT))
                clear hr9 ho9 hg9 hblk
                refine stepsI_float (i := 8) (v := ?_) (some 50) (by kernel_rfl) rfl rfl rfl (fun w' hI => ?_) ?_
                rotate_left
                · go_simp; rfl
                simp only [Act.put, List.setIfInBounds_toArray, List.set_cons_zero, List.set_cons_succ]
                refine stepsI_one (i := 9) (HJ.out _ D0'.out D1'.out) (by kernel_rfl) ?_
                have q2 := TW7.out.c2
                have q5 := TW7.out.f2
                obtain ⟨y17, hy9⟩ : ∃ z, z = y16.setCell ⟨gT, 2, none⟩ (.slice (some ⟨gZ, 0, none⟩) (k + 1) cZ) := ⟨_, rfl⟩
                refine op_skip (w' := y17) rfl rfl (by rw [hy9]; go_simp) ?_
                simp only [Act.put]
                clear q2 q5
                have WW8 := Lib.hid (WW7.out.trans (show WroteIn gT (gT + 1) y16 y17 by rw [hy9]; exact WroteIn.setCell))
                have TW8 := Lib.hid (show TrAt y17 gT (.slice (some ⟨gA, 0, none⟩) n cA) (.slice (some ⟨gB, 0, none⟩) n cB) (.slice (some ⟨gZ, 0, none⟩) (k + 1) cZ) by rw [hy9]; exact TW7.out.set2 _)
                have OZ8 := Lib.hid (show OwnR L6 y17 (some ⟨gZ, 0, none⟩) (k + 1) cZ (negM p (pureS p st d n x) n (k + 1)) by rw [hy9, negM_succ]; exact (WroteIn.setCell (O := gT)).rowsR OZ.out hTL)
                refine stepsI_end (HJ.out _ (WW8.out.cell C0.out (.inl hOT)) (WW8.out.cell C1.out (.inl hOT))) (by kernel_rfl) ?_
                clear hy9
                go_wp2_with (fail)
                go_roundw
                case rel => exact ⟨k + 1, some ⟨gZ, 0, none⟩, cZ, by omega, by go_num, TW8, OZ8, WW8⟩
                case measure => simp [intOf]; omega
        · obtain rfl : k = n := by omega
          have HTR := Lib.hid (TR.out.wrote WW.out (.inl hO1T))
          have r0 := HTR.out.c0
          have r1 := HTR.out.c1
          have r2 := HTR.out.c2
          have f0 := HTR.out.f0
          have f1 := HTR.out.f1
          have f2 := HTR.out.f2
          have t0 := TW.out.c0
          have t1 := TW.out.c1
          have t2 := TW.out.c2
          have HOL := Lib.hid (show w.heap.size ≤ O + 1 by have := HO.out; omega)
          have hT0 : w.heap.size ≤ gT := by have := HO.out; omega
          have OA9 := Lib.hid (WW.out.ownR OA.out hTA9)
          have OB9 := Lib.hid (WW.out.ownR OB.out hTB9)
          have E9 := Lib.hid (WW.out.ext E.out hT0)
          go_wp2_with (fail)
          refine bodyPost_ret (v := .tuple #[.agg #[.slice (some ⟨gA, 0, none⟩) k cA, .slice (some ⟨gB, 0, none⟩) k cB, .slice aC k cC], .int .i64 0]) (by simp [results, Try.results19, go_sem, r0, r1, r2]) rfl ⟨_, rfl, ⟨_, _, _, _, _, _, loA, hiA, loB, hiB, L6, wr.heap.size, rfl, ?_, hlA, hAB, hlB, hBL, hSZ, WroteIn.set3.size, ?_, ?_, ?_⟩, WroteIn.set3.ext E9.out HOL.out⟩
          · have := HO.out; omega
          · exact WroteIn.set3.ownR OA9.out (.inr (by omega))
          · exact WroteIn.set3.ownR OB9.out (.inr (by omega))
          · exact WroteIn.set3.ownR OC.out.high (.inr (by omega))
  · skip
    refine op_value (v := .pointer (some ⟨v0.heap.size, 0, none⟩)) (w' := v0.alloc (.cells #[.slice none 0 0, .slice none 0 0, .slice none 0 0] 38)) (some 7) rfl rfl rfl (by go_simp) ?_
    simp only [Act.put, List.setIfInBounds_toArray, List.set_cons_zero, List.set_cons_succ]
    have TT := Lib.hid (trAt_new v0 (.slice none 0 0) (.slice none 0 0) (.slice none 0 0) 38)
    obtain ⟨u8, hu9⟩ : ∃ z, z = v0.alloc (.cells #[.slice none 0 0, .slice none 0 0, .slice none 0 0] 38) := ⟨_, rfl⟩
    have gg : Ext v0 u8 := by rw [hu9]; exact ext_alloc _ _
    rw [← hu9] at TT
    rw [← hu9]
    have HTZ : Hid (u8.heap.size = v0.heap.size + 1) := Lib.hid (by rw [hu9]; simp)
    obtain ⟨gT, hgT⟩ : ∃ z, z = v0.heap.size := ⟨_, rfl⟩
    have hsT : v0.heap.size ≤ gT := by rw [hgT]; exact X0.out.size'
    rw [← hgT] at TT
    rw [← hgT]
    have HTG := Lib.hid hgT
    clear hu9 hgT
    have X8 := Lib.hid (X0.out.trans gg)
    clear gg
    refine stepsI_one (i := 2) (HJ.out _ (X8.out.cell C0.out) (X8.out.cell C1.out)) (by kernel_rfl) ?_
    refine op_call (f := ?_) (args := ?_) (R := fun v w' => ∃ g c, v = .slice (some ⟨g, 0, none⟩) n c ∧ OwnR u8.heap.size w' (some ⟨g, 0, none⟩) n c (pureA p st d n x) ∧ Ext u8 w') (some 25) rfl rfl rfl ?_ ?_ ?_
    rotate_left 2
    · go_simp; refine ⟨?_, ?_⟩ <;> rfl
    · refine Calls.mono (c_dleft p a d st (some ⟨bx, ox, none⟩) n x u8 HN.out (by omega) (by omega) (by omega) (Nat.le_refl _) (Nat.le_refl _) (HQ.out.ext X8.out) HGS.out (HX.out.ext X8.out) HGX.out) ?_
      rintro e w9 ⟨g9, c9, rfl, ho9, g9'⟩
      exact ⟨_, rfl, g9, c9, rfl, ho9, g9'⟩
    rintro v u9 ⟨gA, cA, rfl, ho9, gg⟩
    simp only [Act.put, List.setIfInBounds_toArray, List.set_cons_zero, List.set_cons_succ]
    replace TT := Lib.hid (TT.out.ext gg)
    have X9 := Lib.hid (X8.out.trans gg)
    have OA := Lib.hid ho9.high
    have hlA := gg.size'
    obtain ⟨loA, hloA⟩ : ∃ z, z = u8.heap.size := ⟨_, rfl⟩
    obtain ⟨hiA, hhiA⟩ : ∃ z, z = u9.heap.size := ⟨_, rfl⟩
    have hsA : v0.heap.size ≤ loA := by rw [hloA]; exact X8.out.size'
    rw [← hloA] at OA hlA
    rw [← hhiA] at OA hlA
    have HLA := Lib.hid hloA
    have HHA := Lib.hid hhiA
    clear ho9 gg hloA hhiA
    refine stepsI_one (i := 5) (HJ.out _ (X9.out.cell C0.out) (X9.out.cell C1.out)) (by kernel_rfl) ?_
    refine op_call (f := ?_) (args := ?_) (R := fun v w' => ∃ g c, v = .slice (some ⟨g, 0, none⟩) n c ∧ OwnR u9.heap.size w' (some ⟨g, 0, none⟩) n c (pureB p st d n x) ∧ Ext u9 w') (some 28) rfl rfl rfl ?_ ?_ ?_
    rotate_left 2
    · go_simp; refine ⟨?_, ?_⟩ <;> rfl
    · refine Calls.mono (c_dright p a d st (some ⟨bx, ox, none⟩) n x u9 HN.out (by omega) (by omega) (by omega) (Nat.le_refl _) (Nat.le_refl _) (HQ.out.ext X9.out) HGS.out (HX.out.ext X9.out) HGX.out) ?_
      rintro e w9 ⟨g9, c9, rfl, ho9, g9'⟩
      exact ⟨_, rfl, g9, c9, rfl, ho9, g9'⟩
    rintro v u10 ⟨gB, cB, rfl, ho9, gg⟩
    simp only [Act.put, List.setIfInBounds_toArray, List.set_cons_zero, List.set_cons_succ]
    replace OA := Lib.hid (OA.out.ext gg)
    replace TT := Lib.hid (TT.out.ext gg)
    have X10 := Lib.hid (X9.out.trans gg)
    have OB := Lib.hid ho9.high
    have hlB := gg.size'
    obtain ⟨loB, hloB⟩ : ∃ z, z = u9.heap.size := ⟨_, rfl⟩
    obtain ⟨hiB, hhiB⟩ : ∃ z, z = u10.heap.size := ⟨_, rfl⟩
    have hsB : v0.heap.size ≤ loB := by rw [hloB]; exact X9.out.size'
    rw [← hloB] at OB hlB
    rw [← hhiB] at OB hlB
    have HLB := Lib.hid hloB
    have HHB := Lib.hid hhiB
    clear ho9 gg hloB hhiB
    refine stepsI_float (i := 6) (v := ?_) (some 29) (by kernel_rfl) rfl rfl rfl (fun w' hI => ?_) ?_
    rotate_left
    · go_simp; rfl
    simp only [Act.put, List.setIfInBounds_toArray, List.set_cons_zero, List.set_cons_succ]
    refine stepsI_one (i := 8) (HJ.out _ (X10.out.cell C0.out) (X10.out.cell C1.out)) (by kernel_rfl) ?_
    have hz9 := HTZ.out
    have hAB : hiA ≤ loB := by rw [HHA.out, HLB.out]; exact Nat.le_refl _
    have hLA9 : gT + 1 ≤ loA := by rw [HLA.out, HTG.out]; omega
    have hTA : hiA ≤ gT ∨ gT + 1 ≤ loA := .inr hLA9
    have hTB : hiB ≤ gT ∨ gT + 1 ≤ loB := .inr (by omega)
    clear hz9
    have hBU : hiB ≤ u10.heap.size := by rw [HHB.out]; exact Nat.le_refl _
    obtain ⟨u11, hu9⟩ : ∃ z, z = (((u10.setCell ⟨gT, 0, none⟩ (.slice (some ⟨gA, 0, none⟩) n cA)).setCell ⟨gT, 1, none⟩ (.slice (some ⟨gB, 0, none⟩) n cB)).setCell ⟨gT, 2, none⟩ (.slice none 0 0)) := ⟨_, rfl⟩
    have q0 := TT.out.c0
    have q1 := TT.out.c1
    have q2 := TT.out.c2
    have q3 := TT.out.f0
    have q4 := TT.out.f1
    have q5 := TT.out.f2
    refine op_skip (w' := u11) rfl rfl (by rw [hu9]; go_simp) ?_
    simp only [Act.put]
    clear q0 q1 q2 q3 q4 q5
    have WW : WroteIn gT (gT + 1) u10 u11 := by rw [hu9]; exact WroteIn.set3
    have gg : Ext v0 u11 := WW.ext X10.out hsT
    have TT2 := Lib.hid (show TrAt u11 gT (.slice (some ⟨gA, 0, none⟩) n cA) (.slice (some ⟨gB, 0, none⟩) n cB) (.slice none 0 0) by rw [hu9]; exact TT.out.set3)
    replace OA := Lib.hid (WW.ownR OA.out hTA)
    replace OB := Lib.hid (WW.ownR OB.out hTB)
    have hBU2 : hiB ≤ u11.heap.size := Nat.le_trans hBU WW.size
    have hgO : O < v0.heap.size := lt_of_cell C0.out
    have hOT : O < gT := by omega
    have hO1T : O + 1 < gT := by have := TR.out.lt; omega
    have hO2 : O + 2 ≤ v0.heap.size := TR.out.lt
    have hTA9 := hTA
    have hTB9 := hTB
    clear hu9 WW TT HHA HLA HHB HLB HTG HTZ hTA hTB hBU
    refine stepsI_end (HJ.out _ (gg.cell C0.out) (gg.cell C1.out)) (by kernel_rfl) ?_
    replace E := Lib.hid (E.out.trans gg)
    replace HQ := Lib.hid (HQ.out.ext gg)
    replace HX := Lib.hid (HX.out.ext gg)
    replace TR := Lib.hid (TR.out.ext gg)
    replace C0 := Lib.hid (gg.cell (p := ⟨O, 0, none⟩) C0.out)
    replace C1 := Lib.hid (gg.cell (p := ⟨O, 1, none⟩) C1.out)
    clear gg
    have TT := TT2
    clear TT2
    have x00 := C0.out
    have x01 := C1.out
    go_wp2_with (fail)
    clear x00 x01
    have HT9 := Lib.hid (show gT + 1 ≤ u11.drew.heap.size from TT.out.lt)
    replace E := Lib.hid (E.out.trans (ext_drew u11))
    replace HQ := Lib.hid (HQ.out.ext (ext_drew u11))
    replace HX := Lib.hid (HX.out.ext (ext_drew u11))
    replace TR := Lib.hid (TR.out.ext (ext_drew u11))
    replace TT := Lib.hid (TT.out.ext (ext_drew u11))
    replace OA := Lib.hid (OA.out.ext (ext_drew u11))
    replace OB := Lib.hid (OB.out.ext (ext_drew u11))
    replace C0 := Lib.hid ((ext_drew u11).cell (p := ⟨O, 0, none⟩) C0.out)
    replace C1 := Lib.hid ((ext_drew u11).cell (p := ⟨O, 1, none⟩) C1.out)
    refine wp_region_lex [(1, .val (.int .i64 p)), (6, .ownR (gT + 1) n (pureS p st d n x))] (by kernel_rfl) (by kernel_rfl) ?_
    (refine LexW.pure (v := ?_) rfl rfl (fun w1 he => ?_) ?_; rotate_left; ( have x00 := (he.cell (p := ⟨O, 0, none⟩) C0.out); have x01 := (he.cell (p := ⟨O, 1, none⟩) C1.out); have t0 := he.cell TT.out.c0; have t1 := he.cell TT.out.c1; go_simp; rfl); simp only [Act.put, List.setIfInBounds_toArray, List.set_cons_zero, List.set_cons_succ])
    (refine LexW.call (f := ?_) (args := ?_) rfl rfl (fun w1 => ?_) (fun w1 he hdep => ?_) ?_; rotate_left 2; (go_simp; refine ⟨?_, ?_⟩ <;> rfl); ( exact c_dfield p (.slice a d d) w1); simp only [Act.put, List.setIfInBounds_toArray, List.set_cons_zero, List.set_cons_succ])
    (refine LexW.pure (v := ?_) rfl rfl (fun w1 he => ?_) ?_; rotate_left; ( have x00 := (he.cell (p := ⟨O, 0, none⟩) C0.out); have x01 := (he.cell (p := ⟨O, 1, none⟩) C1.out); have t0 := he.cell TT.out.c0; have t1 := he.cell TT.out.c1; go_simp; rfl); simp only [Act.put, List.setIfInBounds_toArray, List.set_cons_zero, List.set_cons_succ])
    (refine LexW.pure (v := ?_) rfl rfl (fun w1 he => ?_) ?_; rotate_left; ( have x00 := (he.cell (p := ⟨O, 0, none⟩) C0.out); have x01 := (he.cell (p := ⟨O, 1, none⟩) C1.out); have t0 := he.cell TT.out.c0; have t1 := he.cell TT.out.c1; go_simp; rfl); simp only [Act.put, List.setIfInBounds_toArray, List.set_cons_zero, List.set_cons_succ])
    (refine LexW.pure (v := ?_) rfl rfl (fun w1 he => ?_) ?_; rotate_left; ( have x00 := (he.cell (p := ⟨O, 0, none⟩) C0.out); have x01 := (he.cell (p := ⟨O, 1, none⟩) C1.out); have t0 := he.cell TT.out.c0; have t1 := he.cell TT.out.c1; go_simp; rfl); simp only [Act.put, List.setIfInBounds_toArray, List.set_cons_zero, List.set_cons_succ])
    (refine LexW.pure (v := ?_) rfl rfl (fun w1 he => ?_) ?_; rotate_left; ( have x00 := (he.cell (p := ⟨O, 0, none⟩) C0.out); have x01 := (he.cell (p := ⟨O, 1, none⟩) C1.out); have t0 := he.cell TT.out.c0; have t1 := he.cell TT.out.c1; go_simp; rfl); simp only [Act.put, List.setIfInBounds_toArray, List.set_cons_zero, List.set_cons_succ])
    (refine LexW.callR (f := ?_) (args := ?_) rfl rfl (fun w1 => ?_) (fun w1 he hdep => ?_) (fun v hv => ?_); rotate_left 2; (go_simp; refine ⟨?_, ?_⟩ <;> rfl); ( refine (c_sum p _ _ n n cA cB (pureA p st d n x) (pureB p st d n x) 1 w1 (by omega) (by omega) (by omega) (by omega) (by omega) (OA.out.low.rd.ext he) (OB.out.low.rd.ext he) HGA.out HGB.out).mono ?_; rintro e w2 ⟨g, rc, rfl, ho, g2⟩; exact ⟨_, rfl, g2, g, rc, rfl, ho.mono (Nat.le_trans HT9.out he.size)⟩); simp only [Act.put, List.setIfInBounds_toArray, List.set_cons_zero, List.set_cons_succ])
    obtain ⟨_, g36, c36, rfl, _⟩ := hv
    (refine LexW.pure (v := ?_) rfl rfl (fun w1 he => ?_) ?_; rotate_left; ( have x00 := (he.cell (p := ⟨O, 0, none⟩) C0.out); have x01 := (he.cell (p := ⟨O, 1, none⟩) C1.out); have t0 := he.cell TT.out.c0; have t1 := he.cell TT.out.c1; go_simp; rfl); simp only [Act.put, List.setIfInBounds_toArray, List.set_cons_zero, List.set_cons_succ])
    (refine LexW.pure (v := ?_) rfl rfl (fun w1 he => ?_) ?_; rotate_left; ( have x00 := (he.cell (p := ⟨O, 0, none⟩) C0.out); have x01 := (he.cell (p := ⟨O, 1, none⟩) C1.out); have t0 := he.cell TT.out.c0; have t1 := he.cell TT.out.c1; go_simp; rfl); simp only [Act.put, List.setIfInBounds_toArray, List.set_cons_zero, List.set_cons_succ])
    refine LexW.nil (fun w3 he hkn => ?_)
    obtain ⟨_, _, q36, r36⟩ : (SPred.ownR (gT + 1) n (pureS p st d n x)).holds (.slice (some ⟨g36, 0, none⟩) n c36) w3 := hkn (6, _) (by simp)
    cases q36
    have R36 := Lib.hid r36
    have HE := Lib.hid he
    have HS9 := Lib.hid he.size
    clear he hkn r36
    rename World => v5
    replace E := Lib.hid (E.out.trans HE.out)
    replace HQ := Lib.hid (HQ.out.ext HE.out)
    replace HX := Lib.hid (HX.out.ext HE.out)
    replace TR := Lib.hid (TR.out.ext HE.out)
    replace TT := Lib.hid (TT.out.ext HE.out)
    replace OA := Lib.hid (OA.out.ext HE.out)
    replace OB := Lib.hid (OB.out.ext HE.out)
    replace C0 := Lib.hid (HE.out.cell (p := ⟨O, 0, none⟩) C0.out)
    replace C1 := Lib.hid (HE.out.cell (p := ⟨O, 1, none⟩) C1.out)
    clear HE
    obtain ⟨L6, hL6⟩ : ∃ z, z = v5.heap.size := ⟨_, rfl⟩
    have HL6 := Lib.hid hL6
    have hTL : gT < L6 := by rw [hL6]; exact TT.out.lt
    have hBL : hiB ≤ L6 := by rw [hL6]; exact Nat.le_trans hBU2 HS9.out
    clear hL6 HT9 HS9
    have x00 := C0.out
    have x01 := C1.out
    go_wp2_with (fail)
    clear x00 x01
    go_loopw [38] (fun i wr => ∃ (k : Nat) (aC : Option Addr) (cC : Nat), k ≤ n ∧ i = .int .i64 k ∧ Hid (TrAt wr gT (.slice (some ⟨gA, 0, none⟩) n cA) (.slice (some ⟨gB, 0, none⟩) n cB) (.slice aC k cC)) ∧ Hid (OwnR L6 wr aC k cC (negM p (pureS p st d n x) n k)) ∧ Hid (WroteIn gT (gT + 1) v5 wr)) (fun i _ => n - (intOf i).toNat)
    case atStart => exact ⟨0, none, 0, Nat.zero_le _, rfl, TT, Lib.hid (OwnR.nil _ _), Lib.hid (WroteIn.refl _ _ _)⟩
    case round =>
      rename World => wr
      obtain ⟨k, aC, cC, hk, rfl, TW, OC, WW⟩ := hrel
      have hSZ : L6 ≤ wr.heap.size := by rw [HL6.out]; exact WW.out.size
      have D0 := Lib.hid (WW.out.cell C0.out (.inl hOT))
      have D1 := Lib.hid (WW.out.cell C1.out (.inl hOT))
      have RS := Lib.hid (WW.out.rowsR R36.out (Nat.lt_succ_self _))
      by_cases hkn : k < n
      · skip
        obtain ⟨bS, oS, aK, cK, hab, hcS, hrS⟩ := RS.out.rd.2 k hkn
        simp only [Option.some.injEq, Addr.mk.injEq, and_true] at hab
        obtain ⟨rfl, rfl⟩ := hab
        have hgS := HGC.out k (by rw [RS.out.rd.1]; exact hkn)
        rw [hgS.1] at hcS hrS
        have HGK := Lib.hid hgS
        have HRK := Lib.hid hrS
        have sc := hcS
        rw [Nat.zero_add] at sc
        clear hcS hrS hgS RS
        go_wp2_with (fail)
        clear sc
        obtain ⟨y0, hy0⟩ : ∃ z, z = wr.drew := ⟨_, rfl⟩
        have HY0 := Lib.hid hy0
        have Y0 := Lib.hid (show Ext wr y0 by rw [hy0]; exact ext_drew _)
        refine wp_region_steps 10 J (by kernel_rfl) rfl ?_
        rw [← HY0.out]
        clear hy0 HY0
        refine stepsI_float (i := 0) (v := ?_) (some 42) (by kernel_rfl) rfl rfl rfl (fun w' hI => ?_) ?_
        rotate_left
        · go_simp; rfl
        simp only [Act.put, List.setIfInBounds_toArray, List.set_cons_zero, List.set_cons_succ]
        refine stepsI_float (i := 2) (v := ?_) (some 44) (by kernel_rfl) rfl rfl rfl (fun w' hI => ?_) ?_
        rotate_left
        · obtain ⟨e0, e1⟩ := HJ2.out w' hI; go_simp; rfl
        simp only [Act.put, List.setIfInBounds_toArray, List.set_cons_zero, List.set_cons_succ]
        refine stepsI_float (i := 4) (v := ?_) (some 46) (by kernel_rfl) rfl rfl rfl (fun w' hI => ?_) ?_
        rotate_left
        · go_simp; rfl
        simp only [Act.put, List.setIfInBounds_toArray, List.set_cons_zero, List.set_cons_succ]
        refine stepsI_two (i := 1) (k := 3) (HJ.out _ (Y0.out.cell D0.out) (Y0.out.cell D1.out)) (by kernel_rfl) ?_ ?_
        · skip
          have q2 := Y0.out.cell TW.out.c2
          refine op_value (v := ?_) (w' := y0) (some 43) rfl rfl rfl ?_ ?_
          rotate_left
          · go_simp; rfl
          simp only [Act.put, List.setIfInBounds_toArray, List.set_cons_zero, List.set_cons_succ]
          clear q2
          refine stepsI_one (i := 3) (HJ.out _ (Y0.out.cell D0.out) (Y0.out.cell D1.out)) (by kernel_rfl) ?_
          refine op_call (f := ?_) (args := ?_) (R := fun v w' => v = .int .i64 p ∧ Ext wr w') (some 45) rfl rfl rfl ?_ ?_ ?_
          rotate_left 2
          · go_simp; refine ⟨?_, ?_⟩ <;> rfl
          · refine Calls.mono (c_dfield p (.slice a d d) y0) ?_
            rintro e w9 ⟨rfl, g9⟩
            exact ⟨_, rfl, rfl, Y0.out.trans g9⟩
          rintro v y1 ⟨rfl, g9⟩
          simp only [Act.put, List.setIfInBounds_toArray, List.set_cons_zero, List.set_cons_succ]
          have Y1 := Lib.hid g9
          clear g9
          refine stepsI_one (i := 5) (HJ.out _ (Y1.out.cell D0.out) (Y1.out.cell D1.out)) (by kernel_rfl) ?_
          refine op_call (f := ?_) (args := ?_) (R := fun v w' => ∃ g c, v = .slice (some ⟨g, 0, none⟩) n c ∧ OwnC y1.heap.size w' (some ⟨g, 0, none⟩) n c (scaleL p (nthR (pureS p st d n x) k) (-1) n) ∧ Ext y1 w') (some 47) rfl rfl rfl ?_ ?_ ?_
          rotate_left 2
          · go_simp; refine ⟨?_, ?_⟩ <;> rfl
          · refine Calls.mono (c_scaled p aK n cK (nthR (pureS p st d n x) k) (-1) y1 (by omega) (by omega) (by omega) (by omega) (HRK.out.ext Y1.out) HGK.out) ?_
            rintro e w9 ⟨g9, c9, rfl, ho9, g9'⟩
            exact ⟨_, rfl, g9, c9, rfl, ho9, g9'⟩
          rintro v y2 ⟨gR, cR, rfl, ho9, g9⟩
          simp only [Act.put, List.setIfInBounds_toArray, List.set_cons_zero, List.set_cons_succ]
          have OR := Lib.hid ho9
          have Y2 := Lib.hid (Y1.out.trans g9)
          have XR := Lib.hid g9
          have OC5 := Lib.hid (OC.out.ext Y1.out)
          have HB5 := Lib.hid (show L6 ≤ y1.heap.size from Nat.le_trans hSZ Y1.out.size')
          clear ho9 g9
          refine stepsI_one (i := 6) (HJ.out _ (Y2.out.cell D0.out) (Y2.out.cell D1.out)) (by kernel_rfl) ?_
          refine op_value (v := .slice (some ⟨y2.heap.size, 0, none⟩) 1 1) (w' := y2.alloc (.cells #[.slice (some ⟨gR, 0, none⟩) n cR] 22)) (some 48) rfl rfl rfl (by go_simp) ?_
          simp only [Act.put, List.setIfInBounds_toArray, List.set_cons_zero, List.set_cons_succ]
          obtain ⟨y3, hy9⟩ : ∃ z, z = y2.alloc (.cells #[.slice (some ⟨gR, 0, none⟩) n cR] 22) := ⟨_, rfl⟩
          have gg : Ext y2 y3 := by rw [hy9]; exact ext_alloc _ _
          obtain ⟨gN, hgN⟩ : ∃ z, z = y2.heap.size := ⟨_, rfl⟩
          have HCN := Lib.hid (show y3.cell? ⟨gN, 0, none⟩ = some (.slice (some ⟨gR, 0, none⟩) n cR) by rw [hy9, hgN]; simp)
          rw [← hgN, ← hy9]
          replace XR := Lib.hid (XR.out.trans gg)
          replace OR := Lib.hid (OR.out.ext gg)
          have Y3 := Lib.hid (Y2.out.trans gg)
          clear hgN hy9 gg
          refine stepsI_one (i := 7) (HJ.out _ (Y3.out.cell D0.out) (Y3.out.cell D1.out)) (by kernel_rfl) ?_
          obtain ⟨gZ, cZ, y4, hr9, ho9, hg9, _, _⟩ := run_pushR_at (c := cR) OC5.out XR.out HCN.out OR.out (by omega) HB5.out 25
          refine op_append (some 49) rfl rfl rfl rfl (.tmp 43) (.tmp 48) rfl rfl rfl hr9 ?_
          simp only [Act.put, List.setIfInBounds_toArray, List.set_cons_zero, List.set_cons_succ]
          have OZ := Lib.hid ho9
          have hblk : ∀ z, (Value.slice aC k cC).ownBlock = some z → L6 ≤ z := OC.out.blk
          have TW7 := Lib.hid ((TW.out.ext Y3.out).block (hg9.block gT (TW.out.ext Y3.out).lt (fun e => by have := hblk gT e.symm; omega)))
          have WW7 := Lib.hid ((WW.out.trans (WroteIn.ofExt Y3.out)).grown hg9 (fun z hz => by rw [← HL6.out]; exact hblk z hz))
          have D0' := Lib.hid (WW7.out.cell C0.out (.inl hOT))
          have D1' := Lib.hid (WW7.out.cell C1.out (.inl hOT))
          clear hr9 ho9 hg9 hblk
          refine stepsI_float (i := 8) (v := ?_) (some 50) (by kernel_rfl) rfl rfl rfl (fun w' hI => ?_) ?_
          rotate_left
          · go_simp; rfl
          simp only [Act.put, List.setIfInBounds_toArray, List.set_cons_zero, List.set_cons_succ]
          refine stepsI_one (i := 9) (HJ.out _ D0'.out D1'.out) (by kernel_rfl) ?_
          have q2 := TW7.out.c2
          have q5 := TW7.out.f2
          obtain ⟨y5, hy9⟩ : ∃ z, z = y4.setCell ⟨gT, 2, none⟩ (.slice (some ⟨gZ, 0, none⟩) (k + 1) cZ) := ⟨_, rfl⟩
          refine op_skip (w' := y5) rfl rfl (by rw [hy9]; go_simp) ?_
          simp only [Act.put]
          clear q2 q5
          have WW8 := Lib.hid (WW7.out.trans (show WroteIn gT (gT + 1) y4 y5 by rw [hy9]; exact WroteIn.setCell))
          have TW8 := Lib.hid (show TrAt y5 gT (.slice (some ⟨gA, 0, none⟩) n cA) (.slice (some ⟨gB, 0, none⟩) n cB) (.slice (some ⟨gZ, 0, none⟩) (k + 1) cZ) by rw [hy9]; exact TW7.out.set2 _)
          have OZ8 := Lib.hid (show OwnR L6 y5 (some ⟨gZ, 0, none⟩) (k + 1) cZ (negM p (pureS p st d n x) n (k + 1)) by rw [hy9, negM_succ]; exact (WroteIn.setCell (O := gT)).rowsR OZ.out hTL)
          refine stepsI_end (HJ.out _ (WW8.out.cell C0.out (.inl hOT)) (WW8.out.cell C1.out (.inl hOT))) (by kernel_rfl) ?_
          clear hy9
          go_wp2_with (fail)
          go_roundw
          case rel => exact ⟨k + 1, some ⟨gZ, 0, none⟩, cZ, by omega, by go_num, TW8, OZ8, WW8⟩
          case measure => simp [intOf]; omega
        · skip
          refine op_call (f := ?_) (args := ?_) (R := fun v w' => v = .int .i64 p ∧ Ext wr w') (some 45) rfl rfl rfl ?_ ?_ ?_
          rotate_left 2
          · go_simp; refine ⟨?_, ?_⟩ <;> rfl
          · refine Calls.mono (c_dfield p (.slice a d d) y0) ?_
            rintro e w9 ⟨rfl, g9⟩
            exact ⟨_, rfl, rfl, Y0.out.trans g9⟩
          rintro v y6 ⟨rfl, g9⟩
          simp only [Act.put, List.setIfInBounds_toArray, List.set_cons_zero, List.set_cons_succ]
          have Y6 := Lib.hid g9
          clear g9
          refine stepsI_two (i := 1) (k := 5) (HJ.out _ (Y6.out.cell D0.out) (Y6.out.cell D1.out)) (by kernel_rfl) ?_ ?_
          · skip
            have q2 := Y6.out.cell TW.out.c2
            refine op_value (v := ?_) (w' := y6) (some 43) rfl rfl rfl ?_ ?_
            rotate_left
            · go_simp; rfl
            simp only [Act.put, List.setIfInBounds_toArray, List.set_cons_zero, List.set_cons_succ]
            clear q2
            refine stepsI_one (i := 5) (HJ.out _ (Y6.out.cell D0.out) (Y6.out.cell D1.out)) (by kernel_rfl) ?_
            refine op_call (f := ?_) (args := ?_) (R := fun v w' => ∃ g c, v = .slice (some ⟨g, 0, none⟩) n c ∧ OwnC y6.heap.size w' (some ⟨g, 0, none⟩) n c (scaleL p (nthR (pureS p st d n x) k) (-1) n) ∧ Ext y6 w') (some 47) rfl rfl rfl ?_ ?_ ?_
            rotate_left 2
            · go_simp; refine ⟨?_, ?_⟩ <;> rfl
            · refine Calls.mono (c_scaled p aK n cK (nthR (pureS p st d n x) k) (-1) y6 (by omega) (by omega) (by omega) (by omega) (HRK.out.ext Y6.out) HGK.out) ?_
              rintro e w9 ⟨g9, c9, rfl, ho9, g9'⟩
              exact ⟨_, rfl, g9, c9, rfl, ho9, g9'⟩
            rintro v y7 ⟨gR, cR, rfl, ho9, g9⟩
            simp only [Act.put, List.setIfInBounds_toArray, List.set_cons_zero, List.set_cons_succ]
            have OR := Lib.hid ho9
            have Y7 := Lib.hid (Y6.out.trans g9)
            have XR := Lib.hid g9
            have OC5 := Lib.hid (OC.out.ext Y6.out)
            have HB5 := Lib.hid (show L6 ≤ y6.heap.size from Nat.le_trans hSZ Y6.out.size')
            clear ho9 g9
            refine stepsI_one (i := 6) (HJ.out _ (Y7.out.cell D0.out) (Y7.out.cell D1.out)) (by kernel_rfl) ?_
            refine op_value (v := .slice (some ⟨y7.heap.size, 0, none⟩) 1 1) (w' := y7.alloc (.cells #[.slice (some ⟨gR, 0, none⟩) n cR] 22)) (some 48) rfl rfl rfl (by go_simp) ?_
            simp only [Act.put, List.setIfInBounds_toArray, List.set_cons_zero, List.set_cons_succ]
            obtain ⟨y8, hy9⟩ : ∃ z, z = y7.alloc (.cells #[.slice (some ⟨gR, 0, none⟩) n cR] 22) := ⟨_, rfl⟩
            have gg : Ext y7 y8 := by rw [hy9]; exact ext_alloc _ _
            obtain ⟨gN, hgN⟩ : ∃ z, z = y7.heap.size := ⟨_, rfl⟩
            have HCN := Lib.hid (show y8.cell? ⟨gN, 0, none⟩ = some (.slice (some ⟨gR, 0, none⟩) n cR) by rw [hy9, hgN]; simp)
            rw [← hgN, ← hy9]
            replace XR := Lib.hid (XR.out.trans gg)
            replace OR := Lib.hid (OR.out.ext gg)
            have Y8 := Lib.hid (Y7.out.trans gg)
            clear hgN hy9 gg
            refine stepsI_one (i := 7) (HJ.out _ (Y8.out.cell D0.out) (Y8.out.cell D1.out)) (by kernel_rfl) ?_
            obtain ⟨gZ, cZ, y9, hr9, ho9, hg9, _, _⟩ := run_pushR_at (c := cR) OC5.out XR.out HCN.out OR.out (by omega) HB5.out 25
            refine op_append (some 49) rfl rfl rfl rfl (.tmp 43) (.tmp 48) rfl rfl rfl hr9 ?_
            simp only [Act.put, List.setIfInBounds_toArray, List.set_cons_zero, List.set_cons_succ]
            have OZ := Lib.hid ho9
            have hblk : ∀ z, (Value.slice aC k cC).ownBlock = some z → L6 ≤ z := OC.out.blk
            have TW7 := Lib.hid ((TW.out.ext Y8.out).block (hg9.block gT (TW.out.ext Y8.out).lt (fun e => by have := hblk gT e.symm; omega)))
            have WW7 := Lib.hid ((WW.out.trans (WroteIn.ofExt Y8.out)).grown hg9 (fun z hz => by rw [← HL6.out]; exact hblk z hz))
            have D0' := Lib.hid (WW7.out.cell C0.out (.inl hOT))
            have D1' := Lib.hid (WW7.out.cell C1.out (.inl hOT))
            clear hr9 ho9 hg9 hblk
            refine stepsI_float (i := 8) (v := ?_) (some 50) (by kernel_rfl) rfl rfl rfl (fun w' hI => ?_) ?_
            rotate_left
            · go_simp; rfl
            simp only [Act.put, List.setIfInBounds_toArray, List.set_cons_zero, List.set_cons_succ]
            refine stepsI_one (i := 9) (HJ.out _ D0'.out D1'.out) (by kernel_rfl) ?_
            have q2 := TW7.out.c2
            have q5 := TW7.out.f2
            obtain ⟨y10, hy9⟩ : ∃ z, z = y9.setCell ⟨gT, 2, none⟩ (.slice (some ⟨gZ, 0, none⟩) (k + 1) cZ) := ⟨_, rfl⟩
            refine op_skip (w' := y10) rfl rfl (by rw [hy9]; go_simp) ?_
            simp only [Act.put]
            clear q2 q5
            have WW8 := Lib.hid (WW7.out.trans (show WroteIn gT (gT + 1) y9 y10 by rw [hy9]; exact WroteIn.setCell))
            have TW8 := Lib.hid (show TrAt y10 gT (.slice (some ⟨gA, 0, none⟩) n cA) (.slice (some ⟨gB, 0, none⟩) n cB) (.slice (some ⟨gZ, 0, none⟩) (k + 1) cZ) by rw [hy9]; exact TW7.out.set2 _)
            have OZ8 := Lib.hid (show OwnR L6 y10 (some ⟨gZ, 0, none⟩) (k + 1) cZ (negM p (pureS p st d n x) n (k + 1)) by rw [hy9, negM_succ]; exact (WroteIn.setCell (O := gT)).rowsR OZ.out hTL)
            refine stepsI_end (HJ.out _ (WW8.out.cell C0.out (.inl hOT)) (WW8.out.cell C1.out (.inl hOT))) (by kernel_rfl) ?_
            clear hy9
            go_wp2_with (fail)
            go_roundw
            case rel => exact ⟨k + 1, some ⟨gZ, 0, none⟩, cZ, by omega, by go_num, TW8, OZ8, WW8⟩
            case measure => simp [intOf]; omega
          · skip
            refine op_call (f := ?_) (args := ?_) (R := fun v w' => ∃ g c, v = .slice (some ⟨g, 0, none⟩) n c ∧ OwnC y6.heap.size w' (some ⟨g, 0, none⟩) n c (scaleL p (nthR (pureS p st d n x) k) (-1) n) ∧ Ext y6 w') (some 47) rfl rfl rfl ?_ ?_ ?_
            rotate_left 2
            · go_simp; refine ⟨?_, ?_⟩ <;> rfl
            · refine Calls.mono (c_scaled p aK n cK (nthR (pureS p st d n x) k) (-1) y6 (by omega) (by omega) (by omega) (by omega) (HRK.out.ext Y6.out) HGK.out) ?_
              rintro e w9 ⟨g9, c9, rfl, ho9, g9'⟩
              exact ⟨_, rfl, g9, c9, rfl, ho9, g9'⟩
            rintro v y11 ⟨gR, cR, rfl, ho9, g9⟩
            simp only [Act.put, List.setIfInBounds_toArray, List.set_cons_zero, List.set_cons_succ]
            have OR := Lib.hid ho9
            have Y11 := Lib.hid (Y6.out.trans g9)
            have XR := Lib.hid g9
            have OC5 := Lib.hid (OC.out.ext Y6.out)
            have HB5 := Lib.hid (show L6 ≤ y6.heap.size from Nat.le_trans hSZ Y6.out.size')
            clear ho9 g9
            refine stepsI_two (i := 1) (k := 6) (HJ.out _ (Y11.out.cell D0.out) (Y11.out.cell D1.out)) (by kernel_rfl) ?_ ?_
            · skip
              have q2 := Y11.out.cell TW.out.c2
              refine op_value (v := ?_) (w' := y11) (some 43) rfl rfl rfl ?_ ?_
              rotate_left
              · go_simp; rfl
              simp only [Act.put, List.setIfInBounds_toArray, List.set_cons_zero, List.set_cons_succ]
              clear q2
              refine stepsI_one (i := 6) (HJ.out _ (Y11.out.cell D0.out) (Y11.out.cell D1.out)) (by kernel_rfl) ?_
              refine op_value (v := .slice (some ⟨y11.heap.size, 0, none⟩) 1 1) (w' := y11.alloc (.cells #[.slice (some ⟨gR, 0, none⟩) n cR] 22)) (some 48) rfl rfl rfl (by go_simp) ?_
              simp only [Act.put, List.setIfInBounds_toArray, List.set_cons_zero, List.set_cons_succ]
              obtain ⟨y12, hy9⟩ : ∃ z, z = y11.alloc (.cells #[.slice (some ⟨gR, 0, none⟩) n cR] 22) := ⟨_, rfl⟩
              have gg : Ext y11 y12 := by rw [hy9]; exact ext_alloc _ _
              obtain ⟨gN, hgN⟩ : ∃ z, z = y11.heap.size := ⟨_, rfl⟩
              have HCN := Lib.hid (show y12.cell? ⟨gN, 0, none⟩ = some (.slice (some ⟨gR, 0, none⟩) n cR) by rw [hy9, hgN]; simp)
              rw [← hgN, ← hy9]
              replace XR := Lib.hid (XR.out.trans gg)
              replace OR := Lib.hid (OR.out.ext gg)
              have Y12 := Lib.hid (Y11.out.trans gg)
              clear hgN hy9 gg
              refine stepsI_one (i := 7) (HJ.out _ (Y12.out.cell D0.out) (Y12.out.cell D1.out)) (by kernel_rfl) ?_
              obtain ⟨gZ, cZ, y13, hr9, ho9, hg9, _, _⟩ := run_pushR_at (c := cR) OC5.out XR.out HCN.out OR.out (by omega) HB5.out 25
              refine op_append (some 49) rfl rfl rfl rfl (.tmp 43) (.tmp 48) rfl rfl rfl hr9 ?_
              simp only [Act.put, List.setIfInBounds_toArray, List.set_cons_zero, List.set_cons_succ]
              have OZ := Lib.hid ho9
              have hblk : ∀ z, (Value.slice aC k cC).ownBlock = some z → L6 ≤ z := OC.out.blk
              have TW7 := Lib.hid ((TW.out.ext Y12.out).block (hg9.block gT (TW.out.ext Y12.out).lt (fun e => by have := hblk gT e.symm; omega)))
              have WW7 := Lib.hid ((WW.out.trans (WroteIn.ofExt Y12.out)).grown hg9 (fun z hz => by rw [← HL6.out]; exact hblk z hz))
              have D0' := Lib.hid (WW7.out.cell C0.out (.inl hOT))
              have D1' := Lib.hid (WW7.out.cell C1.out (.inl hOT))
              clear hr9 ho9 hg9 hblk
              refine stepsI_float (i := 8) (v := ?_) (some 50) (by kernel_rfl) rfl rfl rfl (fun w' hI => ?_) ?_
              rotate_left
              · go_simp; rfl
              simp only [Act.put, List.setIfInBounds_toArray, List.set_cons_zero, List.set_cons_succ]
              refine stepsI_one (i := 9) (HJ.out _ D0'.out D1'.out) (by kernel_rfl) ?_
              have q2 := TW7.out.c2
              have q5 := TW7.out.f2
              obtain ⟨y14, hy9⟩ : ∃ z, z = y13.setCell ⟨gT, 2, none⟩ (.slice (some ⟨gZ, 0, none⟩) (k + 1) cZ) := ⟨_, rfl⟩
              refine op_skip (w' := y14) rfl rfl (by rw [hy9]; go_simp) ?_
              simp only [Act.put]
              clear q2 q5
              have WW8 := Lib.hid (WW7.out.trans (show WroteIn gT (gT + 1) y13 y14 by rw [hy9]; exact WroteIn.setCell))
              have TW8 := Lib.hid (show TrAt y14 gT (.slice (some ⟨gA, 0, none⟩) n cA) (.slice (some ⟨gB, 0, none⟩) n cB) (.slice (some ⟨gZ, 0, none⟩) (k + 1) cZ) by rw [hy9]; exact TW7.out.set2 _)
              have OZ8 := Lib.hid (show OwnR L6 y14 (some ⟨gZ, 0, none⟩) (k + 1) cZ (negM p (pureS p st d n x) n (k + 1)) by rw [hy9, negM_succ]; exact (WroteIn.setCell (O := gT)).rowsR OZ.out hTL)
              refine stepsI_end (HJ.out _ (WW8.out.cell C0.out (.inl hOT)) (WW8.out.cell C1.out (.inl hOT))) (by kernel_rfl) ?_
              clear hy9
              go_wp2_with (fail)
              go_roundw
              case rel => exact ⟨k + 1, some ⟨gZ, 0, none⟩, cZ, by omega, by go_num, TW8, OZ8, WW8⟩
              case measure => simp [intOf]; omega
            · skip
              refine op_value (v := .slice (some ⟨y11.heap.size, 0, none⟩) 1 1) (w' := y11.alloc (.cells #[.slice (some ⟨gR, 0, none⟩) n cR] 22)) (some 48) rfl rfl rfl (by go_simp) ?_
              simp only [Act.put, List.setIfInBounds_toArray, List.set_cons_zero, List.set_cons_succ]
              obtain ⟨y15, hy9⟩ : ∃ z, z = y11.alloc (.cells #[.slice (some ⟨gR, 0, none⟩) n cR] 22) := ⟨_, rfl⟩
              have gg : Ext y11 y15 := by rw [hy9]; exact ext_alloc _ _
              obtain ⟨gN, hgN⟩ : ∃ z, z = y11.heap.size := ⟨_, rfl⟩
              have HCN := Lib.hid (show y15.cell? ⟨gN, 0, none⟩ = some (.slice (some ⟨gR, 0, none⟩) n cR) by rw [hy9, hgN]; simp)
              rw [← hgN, ← hy9]
              replace XR := Lib.hid (XR.out.trans gg)
              replace OR := Lib.hid (OR.out.ext gg)
              have Y15 := Lib.hid (Y11.out.trans gg)
              clear hgN hy9 gg
              refine stepsI_one (i := 1) (HJ.out _ (Y15.out.cell D0.out) (Y15.out.cell D1.out)) (by kernel_rfl) ?_
              have q2 := Y15.out.cell TW.out.c2
              refine op_value (v := ?_) (w' := y15) (some 43) rfl rfl rfl ?_ ?_
              rotate_left
              · go_simp; rfl
              simp only [Act.put, List.setIfInBounds_toArray, List.set_cons_zero, List.set_cons_succ]
              clear q2
              refine stepsI_one (i := 7) (HJ.out _ (Y15.out.cell D0.out) (Y15.out.cell D1.out)) (by kernel_rfl) ?_
              obtain ⟨gZ, cZ, y16, hr9, ho9, hg9, _, _⟩ := run_pushR_at (c := cR) OC5.out XR.out HCN.out OR.out (by omega) HB5.out 25
              refine op_append (some 49) rfl rfl rfl rfl (.tmp 43) (.tmp 48) rfl rfl rfl hr9 ?_
              simp only [Act.put, List.setIfInBounds_toArray, List.set_cons_zero, List.set_cons_succ]
              have OZ := Lib.hid ho9
              have hblk : ∀ z, (Value.slice aC k cC).ownBlock = some z → L6 ≤ z := OC.out.blk
              have TW7 := Lib.hid ((TW.out.ext Y15.out).block (hg9.block gT (TW.out.ext Y15.out).lt (fun e => by have := hblk gT e.symm; omega)))
              have WW7 := Lib.hid ((WW.out.trans (WroteIn.ofExt Y15.out)).grown hg9 (fun z hz => by rw [← HL6.out]; exact hblk z hz))
              have D0' := Lib.hid (WW7.out.cell C0.out (.inl hOT))
              have D1' := Lib.hid (WW7.out.cell C1.out (.inl hOT))
              clear hr9 ho9 hg9 hblk
              refine stepsI_float (i := 8) (v := ?_) (some 50) (by kernel_rfl) rfl rfl rfl (fun w' hI => ?_) ?_
              rotate_left
              · go_simp; rfl
              simp only [Act.put, List.setIfInBounds_toArray, List.set_cons_zero, List.set_cons_succ]
              refine stepsI_one (i := 9) (HJ.out _ D0'.out D1'.out) (by kernel_rfl) ?_
              have q2 := TW7.out.c2
              have q5 := TW7.out.f2
              obtain ⟨y17, hy9⟩ : ∃ z, z = y16.setCell ⟨gT, 2, none⟩ (.slice (some ⟨gZ, 0, none⟩) (k + 1) cZ) := ⟨_, rfl⟩
              refine op_skip (w' := y17) rfl rfl (by rw [hy9]; go_simp) ?_
              simp only [Act.put]
              clear q2 q5
              have WW8 := Lib.hid (WW7.out.trans (show WroteIn gT (gT + 1) y16 y17 by rw [hy9]; exact WroteIn.setCell))
              have TW8 := Lib.hid (show TrAt y17 gT (.slice (some ⟨gA, 0, none⟩) n cA) (.slice (some ⟨gB, 0, none⟩) n cB) (.slice (some ⟨gZ, 0, none⟩) (k + 1) cZ) by rw [hy9]; exact TW7.out.set2 _)
              have OZ8 := Lib.hid (show OwnR L6 y17 (some ⟨gZ, 0, none⟩) (k + 1) cZ (negM p (pureS p st d n x) n (k + 1)) by rw [hy9, negM_succ]; exact (WroteIn.setCell (O := gT)).rowsR OZ.out hTL)
              refine stepsI_end (HJ.out _ (WW8.out.cell C0.out (.inl hOT)) (WW8.out.cell C1.out (.inl hOT))) (by kernel_rfl) ?_
              clear hy9
              go_wp2_with (fail)
              go_roundw
              case rel => exact ⟨k + 1, some ⟨gZ, 0, none⟩, cZ, by omega, by go_num, TW8, OZ8, WW8⟩
              case measure => simp [intOf]; omega
      · obtain rfl : k = n := by omega
        have HTR := Lib.hid (TR.out.wrote WW.out (.inl hO1T))
        have r0 := HTR.out.c0
        have r1 := HTR.out.c1
        have r2 := HTR.out.c2
        have f0 := HTR.out.f0
        have f1 := HTR.out.f1
        have f2 := HTR.out.f2
        have t0 := TW.out.c0
        have t1 := TW.out.c1
        have t2 := TW.out.c2
        have HOL := Lib.hid (show w.heap.size ≤ O + 1 by have := HO.out; omega)
        have hT0 : w.heap.size ≤ gT := by have := HO.out; omega
        have OA9 := Lib.hid (WW.out.ownR OA.out hTA9)
        have OB9 := Lib.hid (WW.out.ownR OB.out hTB9)
        have E9 := Lib.hid (WW.out.ext E.out hT0)
        go_wp2_with (fail)
        refine bodyPost_ret (v := .tuple #[.agg #[.slice (some ⟨gA, 0, none⟩) k cA, .slice (some ⟨gB, 0, none⟩) k cB, .slice aC k cC], .int .i64 0]) (by simp [results, Try.results19, go_sem, r0, r1, r2]) rfl ⟨_, rfl, ⟨_, _, _, _, _, _, loA, hiA, loB, hiB, L6, wr.heap.size, rfl, ?_, hlA, hAB, hlB, hBL, hSZ, WroteIn.set3.size, ?_, ?_, ?_⟩, WroteIn.set3.ext E9.out HOL.out⟩
        · have := HO.out; omega
        · exact WroteIn.set3.ownR OA9.out (.inr (by omega))
        · exact WroteIn.set3.ownR OB9.out (.inr (by omega))
        · exact WroteIn.set3.ownR OC.out.high (.inr (by omega))
end Go.Proofs.Ythflmmgolegonaa
