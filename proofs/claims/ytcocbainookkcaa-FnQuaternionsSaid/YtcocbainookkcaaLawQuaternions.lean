/-
  The law FnQuaternions returns true.
  No condition.
-/
import Derived.Test.YtcocbainookkcaaPart11
import Derived.Test.YtcocbainookkcaaPart12
import Derived.Test.YtcocbainookkcaaPart4
namespace Go.Proofs.Ytcocbainookkcaa
set_option maxRecDepth 100000
open Go.RowKit

theorem own_pairQ (w : World) (x y : Int) : OwnC w.heap.size (w.alloc (.cells #[.int .i64 x, .int .i64 y] 2)) (some ⟨w.heap.size, 0, none⟩) 2 2 [x, y] :=
  ⟨rfl, ⟨rfl, .inr ⟨w.heap.size, 2, #[.int .i64 x, .int .i64 y], rfl, Nat.le_refl _, heap_alloc_new w _, Nat.le_refl _, by unfold maxLen; omega, by simp, by simp⟩⟩⟩
namespace Chg
/-- A row of the call's own, behind the source, of a length and with a property. -/
def SPred.ownPQ (S : SrcP) (B n : Nat) (P : List Int → Prop) (hB : S.g < B) : SPred (Drw.rel S) :=
  ⟨fun v w => ∃ g cap xs, v = .slice (some ⟨g, 0, none⟩) n cap ∧ P xs ∧ OwnC B w (some ⟨g, 0, none⟩) n cap xs, fun _ _ _ ⟨g, cap, xs, h1, h2, h3⟩ he => ⟨g, cap, xs, h1, h2, Drw.own he h3 hB⟩⟩
end Chg
theorem quat_prime {r : Int} (h0 : 0 ≤ r) (h1 : r < 5) : ∃ (k P : Nat), r = k ∧ k < 5 ∧ nth [3, 5, 7, 11, 13] k = (P : Int) ∧ primeB (P : Int) = true := by
  obtain ⟨k, rfl⟩ := Int.eq_ofNat_of_zero_le h0
  have hk : k = 0 ∨ k = 1 ∨ k = 2 ∨ k = 3 ∨ k = 4 := by omega
  rcases hk with rfl | rfl | rfl | rfl | rfl
  · exact ⟨0, 3, rfl, by decide, rfl, by decide⟩
  · exact ⟨1, 5, rfl, by decide, rfl, by decide⟩
  · exact ⟨2, 7, rfl, by decide, rfl, by decide⟩
  · exact ⟨3, 11, rfl, by decide, rfl, by decide⟩
  · exact ⟨4, 13, rfl, by decide, rfl, by decide⟩
theorem quat_step {P : Nat} {r : Int} (hp : 3 ≤ P ∧ P ≤ 13) (h0 : 0 ≤ r) (h1 : r < (P : Int) - 1) : ∃ s, s = IntKind.i64.wrap (1 + r) ∧ 1 ≤ s ∧ s < (P : Int) := by
  refine ⟨_, rfl, ?_⟩
  rw [IntWalk.i64_in _ (by omega)]
  omega
theorem quat_doub {P : Nat} {s t : Int} (hp : primeB (P : Int) = true) (hs : 1 ≤ s ∧ s < (P : Int)) (ht : 1 ≤ t ∧ t < (P : Int)) : doubB (P : Int) [s, t] = true := by
  have h1 : isB (P : Int) [s, t] = true := by simp [isB, inB]; omega
  have h2 : hasB [s, t] 0 = false := has_none fun k hk => by
    have hk2 : k = 0 ∨ k = 1 := by simp at hk; omega
    rcases hk2 with rfl | rfl
    · show s ≠ 0
      omega
    · show t ≠ 0
      omega
  unfold doubB
  rw [hp, h1, h2]; rfl
theorem quat_space {P : Nat} {s t : Int} (hp : primeB (P : Int) = true) (hs : 1 ≤ s ∧ s < (P : Int)) (ht : 1 ≤ t ∧ t < (P : Int)) : spaceB (P : Int) [s, t] = true := by
  have h1 : isB (P : Int) [s, t] = true := by simp [isB, inB]; omega
  unfold spaceB
  rw [hp, h1]; rfl

set_option maxHeartbeats 32000000 in
set_option maxRecDepth 100000 in
theorem law_Quaternions (w : World) (ac : Option Addr) (nc cc : Nat) (hb : RdY w ac nc) :
    Calls Try.prog 5 #[.slice ac nc cc] w fun e w' => e = .returned (.bool true) ∧ Ext w w' := by
  have HB := Lib.hid hb
  clear hb
  go_enter Try.func5, Try.ntmps5
  go_wp2_with (fail)
  refine Calls.mono (l_big ac nc cc w) ?_
  rintro e w1 ⟨rfl, g0⟩
  have E := Lib.hid g0
  by_cases hbig : 4096 < nc
  · have hbb : decide (4096 < nc) = true := by simp [hbig]
    rw [hbb]
    go_wp2_with (fail)
    go_ret
    exact ⟨rfl, E.out⟩
  have hbb : decide (4096 < nc) = false := by simp [hbig]
  rw [hbb]
  clear g0 hbb
  go_wp2_with (fail)
  refine Calls.mono (l_roll ac nc cc 3004 w1 (by omega) (HB.out.ext E.out)) ?_
  rintro e v1 ⟨g, rfl, hg, hS, gg⟩
  obtain ⟨S, hSe⟩ : ∃ S : SrcP, S = ⟨g, ac, nc, cc⟩ := ⟨_, rfl⟩
  obtain rfl : g = S.g := by rw [hSe]
  rw [← hSe] at hS
  have HS := Lib.hid hS
  have hgB : w.heap.size ≤ S.g := by have := E.out.size; omega
  have E0 := Lib.hid (E.out.trans gg)
  clear hSe hS gg hg E HB hbig
  go_wp2_with (fail)
  obtain ⟨gP, hgP⟩ : ∃ z, z = v1.heap.size := ⟨_, rfl⟩
  obtain ⟨W1, hW1⟩ : ∃ W, W = v1.alloc (.cells #[.int .i64 3, .int .i64 5, .int .i64 7, .int .i64 11, .int .i64 13] 2) := ⟨_, rfl⟩
  have HPL := Lib.hid (show RdC W1 (some ⟨gP, 0, none⟩) 5 [3, 5, 7, 11, 13] by rw [hW1, hgP]; exact rdC_lit v1 2 [3, 5, 7, 11, 13])
  have gg : Ext v1 W1 := by rw [hW1]; exact ext_alloc _ _
  have hgPS : gP ≠ S.g := by have := HS.out.lt; omega
  rw [← hgP, ← hW1]
  clear hW1 hgP
  replace E0 := Lib.hid (E0.out.trans gg)
  replace HS := Lib.hid ((Drw.of_ext (S := S) gg).src HS.out)
  clear gg
  refine Calls.mono (l_below S 5 W1 HS.out (by omega)) ?_
  rintro e v2 ⟨r, rfl, hr, gg⟩
  have hr5 := hr.2 (by omega)
  obtain ⟨k, P, rfl, hk5, hkP, hPp⟩ := quat_prime hr5.1 hr5.2
  have HPC := Lib.hid (show v2.cell? ⟨gP, k, none⟩ = some (.int .i64 (P : Int)) by
    obtain ⟨b, o, hb, hc⟩ := HPL.out.2 k hk5
    simp only [Option.some.injEq, Addr.mk.injEq] at hb
    obtain ⟨rfl, rfl, _⟩ := hb
    rw [hkP] at hc
    have := gg.cell hgPS hc
    simpa using this)
  clear HPL hr hkP
  replace E0 := Lib.hid (gg.toExt E0.out hgB)
  replace HS := Lib.hid (gg.src HS.out)
  clear gg
  have hpb := prime_bd hPp
  have HPP := Lib.hid hPp
  have hP13 : 3 ≤ P ∧ P ≤ 13 := by omega
  clear hPp hpb
  obtain ⟨q9, hq9⟩ : ∃ q, q = (P : Int) - 1 := ⟨_, rfl⟩
  have hwq : IntKind.i64.wrap ((P : Int) - 1) = q9 := by rw [hq9]; exact IntWalk.i64_in _ (by omega)
  have hq9b : q9 ≤ 12 ∧ 1 ≤ q9 := by omega
  have HQ9 := Lib.hid hq9
  clear hq9
  have hk5' : (k : Int) < 5 := by omega
  have hpc := HPC.out
  go_wp2_with (fail)
  clear hpc HPC hk5' hr5 hk5 hgPS
  refine Calls.mono (l_below S q9 v2 HS.out (by omega)) ?_
  rintro e v3 ⟨r1, rfl, hr, gg⟩
  have hrb := hr.2 (by omega)
  obtain ⟨s1, hs1, hsb1⟩ := quat_step (P := P) (r := r1) hP13 hrb.1 (by rw [← HQ9.out]; exact hrb.2)
  replace hs1 := hs1.symm
  clear hrb hr
  replace E0 := Lib.hid (gg.toExt E0.out hgB)
  replace HS := Lib.hid (gg.src HS.out)
  clear gg
  go_wp2_with (fail)
  refine Calls.mono (l_below S q9 v3 HS.out (by omega)) ?_
  rintro e v4 ⟨r2, rfl, hr, gg⟩
  have hrb := hr.2 (by omega)
  obtain ⟨s2, hs2, hsb2⟩ := quat_step (P := P) (r := r2) hP13 hrb.1 (by rw [← HQ9.out]; exact hrb.2)
  replace hs2 := hs2.symm
  clear hrb hr
  replace E0 := Lib.hid (gg.toExt E0.out hgB)
  replace HS := Lib.hid (gg.src HS.out)
  clear gg
  go_wp2_with (fail)
  have HDB := Lib.hid (quat_doub (P := P) HPP.out hsb1 hsb2)
  have HSB := Lib.hid (quat_space (P := P) HPP.out hsb1 hsb2)
  clear hs1 hs2 hwq hq9b HQ9
  have HO := Lib.hid (own_pairQ v4 s1 s2)
  obtain ⟨W2, hW2⟩ : ∃ W, W = v4.alloc (.cells #[.int .i64 s1, .int .i64 s2] 2) := ⟨_, rfl⟩
  have gg : Ext v4 W2 := by rw [hW2]; exact ext_alloc _ _
  obtain ⟨gS, hgS⟩ : ∃ z, z = v4.heap.size := ⟨_, rfl⟩
  have RST := Lib.hid (show OwnC (S.g + 1) W2 (some ⟨gS, 0, none⟩) 2 2 [s1, s2] by rw [hW2, hgS]; exact HO.out.mono HS.out.lt)
  have hsz : W2.heap.size = gS + 1 := by rw [hW2, hgS]; simp
  rw [← hW2, ← hgS]
  clear HO hW2 hgS
  replace E0 := Lib.hid (E0.out.trans gg)
  replace HS := Lib.hid ((Drw.of_ext (S := S) gg).src HS.out)
  clear gg
  obtain ⟨OD, hOD⟩ : ∃ O2, O2 = W2.heap.size := ⟨_, rfl⟩
  obtain ⟨W3, hW3⟩ : ∃ WW, WW = W2.alloc (.cells #[.int .i64 (P : Int), .slice (some ⟨gS, 0, none⟩) 2 2] 52) := ⟨_, rfl⟩
  have C0 := Lib.hid (show W3.cell? ⟨OD, 0, none⟩ = some (.int .i64 (P : Int)) by rw [hW3, hOD]; simp)
  have C1 := Lib.hid (show W3.cell? ⟨OD, 1, none⟩ = some (.slice (some ⟨gS, 0, none⟩) 2 2) by rw [hW3, hOD]; simp)
  have gg : Ext W2 W3 := by rw [hW3]; exact ext_alloc _ _
  have hgOD : OD ≠ S.g := by have := HS.out.lt; omega
  rw [show gS + 1 = OD by rw [hOD, hsz]]
  rw [← hW3]
  clear hOD hW3 hsz
  replace E0 := Lib.hid (E0.out.trans gg)
  replace HS := Lib.hid ((Drw.of_ext (S := S) gg).src HS.out)
  replace RST := Lib.hid (RST.out.ext gg)
  clear gg
  have y00 := (Ext.refl W3).cell (p := ⟨OD, 0, none⟩) C0.out
  have y01 := (Ext.refl W3).cell (p := ⟨OD, 1, none⟩) C1.out
  have y02 : W3.cell? ⟨gS, 0, none⟩ = some (.int .i64 s1) := (Ext.refl W3).cell (RST.out.cell (j := 0) (by omega))
  have y03 : W3.cell? ⟨gS, 1, none⟩ = some (.int .i64 s2) := (Ext.refl W3).cell (RST.out.cell (j := 1) (by omega))
  have y10 := (ext_alloc W3 (.cells #[.int .i64 0, .slice none 0 0] 26)).cell (p := ⟨OD, 0, none⟩) C0.out
  have y11 := (ext_alloc W3 (.cells #[.int .i64 0, .slice none 0 0] 26)).cell (p := ⟨OD, 1, none⟩) C1.out
  have y12 : (W3.alloc (.cells #[.int .i64 0, .slice none 0 0] 26)).cell? ⟨gS, 0, none⟩ = some (.int .i64 s1) := (ext_alloc W3 (.cells #[.int .i64 0, .slice none 0 0] 26)).cell (RST.out.cell (j := 0) (by omega))
  have y13 : (W3.alloc (.cells #[.int .i64 0, .slice none 0 0] 26)).cell? ⟨gS, 1, none⟩ = some (.int .i64 s2) := (ext_alloc W3 (.cells #[.int .i64 0, .slice none 0 0] 26)).cell (RST.out.cell (j := 1) (by omega))
  have y20 := (ext_alloc W3 (.cells #[.int .i64 s1, .int .i64 s2] 2)).cell (p := ⟨OD, 0, none⟩) C0.out
  have y21 := (ext_alloc W3 (.cells #[.int .i64 s1, .int .i64 s2] 2)).cell (p := ⟨OD, 1, none⟩) C1.out
  have y22 : (W3.alloc (.cells #[.int .i64 s1, .int .i64 s2] 2)).cell? ⟨gS, 0, none⟩ = some (.int .i64 s1) := (ext_alloc W3 (.cells #[.int .i64 s1, .int .i64 s2] 2)).cell (RST.out.cell (j := 0) (by omega))
  have y23 : (W3.alloc (.cells #[.int .i64 s1, .int .i64 s2] 2)).cell? ⟨gS, 1, none⟩ = some (.int .i64 s2) := (ext_alloc W3 (.cells #[.int .i64 s1, .int .i64 s2] 2)).cell (RST.out.cell (j := 1) (by omega))
  go_region
  all_goals
    clear y00 y01 y02 y03 y10 y11 y12 y13 y20 y21 y22 y23
    first
      | (obtain ⟨OS, hOS⟩ : ∃ z, z = W3.heap.size := ⟨_, rfl⟩
         obtain ⟨gQ, hgQ⟩ : ∃ z, z = W3.heap.size + 1 := ⟨_, rfl⟩
         obtain ⟨W6, hW6⟩ : ∃ W, W = ((W3.alloc (.cells #[.int .i64 (P : Int), .slice (some ⟨W3.heap.size + 1, 0, none⟩) 2 2] 26)).alloc (.cells #[.int .i64 s1, .int .i64 s2] 2)).drew := ⟨_, rfl⟩
         have HW6 := Lib.hid (show W6.cell? ⟨OS, 0, none⟩ = some (.int .i64 (P : Int)) ∧ W6.cell? ⟨OS, 1, none⟩ = some (.slice (some ⟨gQ, 0, none⟩) 2 2) ∧ OwnC (S.g + 1) W6 (some ⟨gQ, 0, none⟩) 2 2 [s1, s2] ∧ Ext W3 W6 ∧ OS ≠ S.g from by
           have hlt := HS.out.lt
           refine ⟨?_, ?_, ?_, ?_, by omega⟩
           · rw [hW6, hOS]; simp
           · rw [hW6, hOS, hgQ]; simp
           · rw [hW6, hgQ]; have HO := own_pairQ (W3.alloc (.cells #[.int .i64 (P : Int), .slice (some ⟨W3.heap.size + 1, 0, none⟩) 2 2] 26)) s1 s2
             simp only [World.size_alloc] at HO
             exact (HO.ext (ext_drew _)).mono (by omega)
           · rw [hW6]; exact ((ext_alloc _ _).alloc _).trans (ext_drew _))
         rw [← hW6]
         rw [← hOS]
         clear hW6 hOS hgQ)
      | (obtain ⟨OS, hOS⟩ : ∃ z, z = W3.heap.size + 1 := ⟨_, rfl⟩
         obtain ⟨gQ, hgQ⟩ : ∃ z, z = W3.heap.size := ⟨_, rfl⟩
         obtain ⟨W6, hW6⟩ : ∃ W, W = ((W3.alloc (.cells #[.int .i64 s1, .int .i64 s2] 2)).alloc (.cells #[.int .i64 (P : Int), .slice (some ⟨W3.heap.size, 0, none⟩) 2 2] 26)).drew := ⟨_, rfl⟩
         have HW6 := Lib.hid (show W6.cell? ⟨OS, 0, none⟩ = some (.int .i64 (P : Int)) ∧ W6.cell? ⟨OS, 1, none⟩ = some (.slice (some ⟨gQ, 0, none⟩) 2 2) ∧ OwnC (S.g + 1) W6 (some ⟨gQ, 0, none⟩) 2 2 [s1, s2] ∧ Ext W3 W6 ∧ OS ≠ S.g from by
           have hlt := HS.out.lt
           refine ⟨?_, ?_, ?_, ?_, by omega⟩
           · rw [hW6, hOS]; simp
           · rw [hW6, hOS, hgQ]; simp
           · rw [hW6, hgQ]; have HO := own_pairQ W3 s1 s2
             exact ((HO.ext (ext_alloc _ _)).ext (ext_drew _)).mono (by omega)
           · rw [hW6]; exact ((ext_alloc _ _).alloc _).trans (ext_drew _))
         rw [← hW6]
         rw [← hOS]
         clear hW6 hOS hgQ)
    obtain ⟨hd0, hd1, hrq, gg, hgOS⟩ := HW6.out
    have D0 := Lib.hid hd0
    have D1 := Lib.hid hd1
    have RSQ := Lib.hid hrq
    clear hd0 hd1 hrq HW6
    replace E0 := Lib.hid (E0.out.trans gg)
    replace HS := Lib.hid ((Drw.of_ext (S := S) gg).src HS.out)
    replace RST := Lib.hid (RST.out.ext gg)
    replace C0 := Lib.hid (gg.cell (p := ⟨OD, 0, none⟩) C0.out)
    replace C1 := Lib.hid (gg.cell (p := ⟨OD, 1, none⟩) C1.out)
    clear gg
    have x00 := C0.out
    have x01 := C1.out
    have x10 := D0.out
    have x11 := D1.out
    go_wp2_with (fail)
    clear x00 x01 x10 x11
    replace E0 := Lib.hid (E0.out.trans (ext_drew W6))
    replace HS := Lib.hid ((Drw.of_ext (S := S) (ext_drew W6)).src HS.out)
    replace RST := Lib.hid (RST.out.ext (ext_drew W6))
    replace RSQ := Lib.hid (RSQ.out.ext (ext_drew W6))
    replace C0 := Lib.hid ((ext_drew W6).cell (p := ⟨OD, 0, none⟩) C0.out)
    replace C1 := Lib.hid ((ext_drew W6).cell (p := ⟨OD, 1, none⟩) C1.out)
    replace D0 := Lib.hid ((ext_drew W6).cell (p := ⟨OS, 0, none⟩) D0.out)
    replace D1 := Lib.hid ((ext_drew W6).cell (p := ⟨OS, 1, none⟩) D1.out)
    refine Chg.wp_region_lex (E := Drw.rel S) [(2, .ownPQ S (S.g + 1) 4 (Good (P : Int) 4) (Nat.lt_succ_self _)), (5, .ownPQ S (S.g + 1) 4 (Good (P : Int) 4) (Nat.lt_succ_self _))] (by kernel_rfl) (by kernel_rfl) ?_
    (refine Chg.LexW.pure (v := ?_) rfl rfl (fun w1 he => ?_) ?_; rotate_left; ( have he' : Drw S _ _ := he; have x00 := (he'.cell (p := ⟨OD, 0, none⟩) hgOD C0.out); have x01 := (he'.cell (p := ⟨OD, 1, none⟩) hgOD C1.out); have x10 := (he'.cell (p := ⟨OS, 0, none⟩) hgOS D0.out); have x11 := (he'.cell (p := ⟨OS, 1, none⟩) hgOS D1.out); go_simp; rfl); simp only [Act.put, List.setIfInBounds_toArray, List.set_cons_zero, List.set_cons_succ])
    (refine Chg.LexW.pure (v := ?_) rfl rfl (fun w1 he => ?_) ?_; rotate_left; ( have he' : Drw S _ _ := he; have x00 := (he'.cell (p := ⟨OD, 0, none⟩) hgOD C0.out); have x01 := (he'.cell (p := ⟨OD, 1, none⟩) hgOD C1.out); have x10 := (he'.cell (p := ⟨OS, 0, none⟩) hgOS D0.out); have x11 := (he'.cell (p := ⟨OS, 1, none⟩) hgOS D1.out); go_simp; rfl); simp only [Act.put, List.setIfInBounds_toArray, List.set_cons_zero, List.set_cons_succ])
    (refine Chg.LexW.callR (f := ?_) (args := ?_) rfl rfl (fun w1 => ?_) (fun w1 he hdep => ?_) (fun v hv => ?_); rotate_left 2; (go_simp; refine ⟨?_, ?_⟩ <;> rfl); ( have he' : Drw S _ _ := he; (refine Calls.mono (l_element9 S (P : Int) (some ⟨gS, 0, none⟩) 2 _ (he'.src HS.out) (by omega) (by omega)) ?_; rintro e w9 ⟨g9, c9, x9, rfl, ho9, hg9, x8⟩; exact ⟨_, rfl, x8, g9, c9, x9, rfl, hg9, ho9.mono (Nat.le_trans HS.out.lt he'.size)⟩)); simp only [Act.put, List.setIfInBounds_toArray, List.set_cons_zero, List.set_cons_succ])
    obtain ⟨_, gX, cX, _, rfl, _⟩ := hv
    (refine Chg.LexW.pure (v := ?_) rfl rfl (fun w1 he => ?_) ?_; rotate_left; ( have he' : Drw S _ _ := he; have x00 := (he'.cell (p := ⟨OD, 0, none⟩) hgOD C0.out); have x01 := (he'.cell (p := ⟨OD, 1, none⟩) hgOD C1.out); have x10 := (he'.cell (p := ⟨OS, 0, none⟩) hgOS D0.out); have x11 := (he'.cell (p := ⟨OS, 1, none⟩) hgOS D1.out); go_simp; rfl); simp only [Act.put, List.setIfInBounds_toArray, List.set_cons_zero, List.set_cons_succ])
    (refine Chg.LexW.pure (v := ?_) rfl rfl (fun w1 he => ?_) ?_; rotate_left; ( have he' : Drw S _ _ := he; have x00 := (he'.cell (p := ⟨OD, 0, none⟩) hgOD C0.out); have x01 := (he'.cell (p := ⟨OD, 1, none⟩) hgOD C1.out); have x10 := (he'.cell (p := ⟨OS, 0, none⟩) hgOS D0.out); have x11 := (he'.cell (p := ⟨OS, 1, none⟩) hgOS D1.out); go_simp; rfl); simp only [Act.put, List.setIfInBounds_toArray, List.set_cons_zero, List.set_cons_succ])
    (refine Chg.LexW.callR (f := ?_) (args := ?_) rfl rfl (fun w1 => ?_) (fun w1 he hdep => ?_) (fun v hv => ?_); rotate_left 2; (go_simp; refine ⟨?_, ?_⟩ <;> rfl); ( have he' : Drw S _ _ := he; (refine Calls.mono (l_element9 S (P : Int) (some ⟨gS, 0, none⟩) 2 _ (he'.src HS.out) (by omega) (by omega)) ?_; rintro e w9 ⟨g9, c9, x9, rfl, ho9, hg9, x8⟩; exact ⟨_, rfl, x8, g9, c9, x9, rfl, hg9, ho9.mono (Nat.le_trans HS.out.lt he'.size)⟩)); simp only [Act.put, List.setIfInBounds_toArray, List.set_cons_zero, List.set_cons_succ])
    obtain ⟨_, gY, cY, _, rfl, _⟩ := hv
    (refine Chg.LexW.pure (v := ?_) rfl rfl (fun w1 he => ?_) ?_; rotate_left; ( have he' : Drw S _ _ := he; have x00 := (he'.cell (p := ⟨OD, 0, none⟩) hgOD C0.out); have x01 := (he'.cell (p := ⟨OD, 1, none⟩) hgOD C1.out); have x10 := (he'.cell (p := ⟨OS, 0, none⟩) hgOS D0.out); have x11 := (he'.cell (p := ⟨OS, 1, none⟩) hgOS D1.out); go_simp; rfl); simp only [Act.put, List.setIfInBounds_toArray, List.set_cons_zero, List.set_cons_succ])
    (refine Chg.LexW.pure (v := ?_) rfl rfl (fun w1 he => ?_) ?_; rotate_left; ( have he' : Drw S _ _ := he; have x00 := (he'.cell (p := ⟨OD, 0, none⟩) hgOD C0.out); have x01 := (he'.cell (p := ⟨OD, 1, none⟩) hgOD C1.out); have x10 := (he'.cell (p := ⟨OS, 0, none⟩) hgOS D0.out); have x11 := (he'.cell (p := ⟨OS, 1, none⟩) hgOS D1.out); go_simp; rfl); simp only [Act.put, List.setIfInBounds_toArray, List.set_cons_zero, List.set_cons_succ])
    refine Chg.LexW.nil (fun v5 he hkn => ?_)
    have gg : Drw S W6.drew v5 := he
    obtain ⟨_, _, x, q9, hp9, r9⟩ : (Chg.SPred.ownPQ S (S.g + 1) 4 (Good (P : Int) 4) (Nat.lt_succ_self _)).holds (.slice (some ⟨gX, 0, none⟩) 4 cX) _ := hkn (2, _) (by simp)
    cases q9
    have RX := Lib.hid r9
    have HGX := Lib.hid hp9
    have hcx : 4 ≤ cX := r9.capLe (by omega)
    clear r9 hp9
    obtain ⟨_, _, y, q9, hp9, r9⟩ : (Chg.SPred.ownPQ S (S.g + 1) 4 (Good (P : Int) 4) (Nat.lt_succ_self _)).holds (.slice (some ⟨gY, 0, none⟩) 4 cY) _ := hkn (5, _) (by simp)
    cases q9
    have RY := Lib.hid r9
    have HGY := Lib.hid hp9
    have hcy : 4 ≤ cY := r9.capLe (by omega)
    clear r9 hp9
    replace E0 := Lib.hid (gg.toExt E0.out hgB)
    replace HS := Lib.hid (gg.src HS.out)
    replace RST := Lib.hid (gg.own RST.out (Nat.lt_succ_self _))
    replace RSQ := Lib.hid (gg.own RSQ.out (Nat.lt_succ_self _))
    replace C0 := Lib.hid (gg.cell (p := ⟨OD, 0, none⟩) hgOD C0.out)
    replace C1 := Lib.hid (gg.cell (p := ⟨OD, 1, none⟩) hgOD C1.out)
    replace D0 := Lib.hid (gg.cell (p := ⟨OS, 0, none⟩) hgOS D0.out)
    replace D1 := Lib.hid (gg.cell (p := ⟨OS, 1, none⟩) hgOS D1.out)
    clear gg he hkn
    have x00 := C0.out
    have x01 := C1.out
    have x10 := D0.out
    have x11 := D1.out
    go_wp2_with (fail)
    clear x00 x01 x10 x11
    refine Calls.mono (c_DoubleTimes_ok (P : Int) (some ⟨gS, 0, none⟩) 2 2 4 [s1, s2] (some ⟨gX, 0, none⟩) cX x (some ⟨gY, 0, none⟩) cY y v5 HDB.out (by decide) (by omega) RST.out.rd hcx RX.out.rd HGX.out hcy RY.out.rd HGY.out) ?_
    rintro e v6 ⟨gZ, kZ, rfl, ho, gg⟩
    have RZ := Lib.hid (ho.mono (show S.g + 1 ≤ _ from HS.out.lt))
    clear ho
    replace E0 := Lib.hid (E0.out.trans gg)
    replace HS := Lib.hid ((Drw.of_ext (S := S) gg).src HS.out)
    replace RST := Lib.hid (RST.out.ext gg)
    replace RSQ := Lib.hid (RSQ.out.ext gg)
    replace RX := Lib.hid (RX.out.ext gg)
    replace RY := Lib.hid (RY.out.ext gg)
    replace C0 := Lib.hid (gg.cell (p := ⟨OD, 0, none⟩) C0.out)
    replace C1 := Lib.hid (gg.cell (p := ⟨OD, 1, none⟩) C1.out)
    replace D0 := Lib.hid (gg.cell (p := ⟨OS, 0, none⟩) D0.out)
    replace D1 := Lib.hid (gg.cell (p := ⟨OS, 1, none⟩) D1.out)
    clear gg
    have x00 := C0.out
    have x01 := C1.out
    have x10 := D0.out
    have x11 := D1.out
    go_wp2_with (fail)
    clear x00 x01 x10 x11
    refine Calls.mono (s_DoubleTimes_ok (P : Int) (some ⟨gS, 0, none⟩) 2 2 4 [s1, s2] (some ⟨gX, 0, none⟩) cX x (some ⟨gY, 0, none⟩) cY y v6 HDB.out (by decide) (by omega) RST.out.rd hcx RX.out.rd HGX.out hcy RY.out.rd HGY.out) ?_
    rintro e v7 ⟨gT, kT, rfl, ho, gg⟩
    have RT := Lib.hid (ho.mono (show S.g + 1 ≤ _ from HS.out.lt))
    clear ho
    replace E0 := Lib.hid (E0.out.trans gg)
    replace HS := Lib.hid ((Drw.of_ext (S := S) gg).src HS.out)
    replace RST := Lib.hid (RST.out.ext gg)
    replace RSQ := Lib.hid (RSQ.out.ext gg)
    replace RX := Lib.hid (RX.out.ext gg)
    replace RY := Lib.hid (RY.out.ext gg)
    replace RZ := Lib.hid (RZ.out.ext gg)
    replace C0 := Lib.hid (gg.cell (p := ⟨OD, 0, none⟩) C0.out)
    replace C1 := Lib.hid (gg.cell (p := ⟨OD, 1, none⟩) C1.out)
    replace D0 := Lib.hid (gg.cell (p := ⟨OS, 0, none⟩) D0.out)
    replace D1 := Lib.hid (gg.cell (p := ⟨OS, 1, none⟩) D1.out)
    clear gg
    have x00 := C0.out
    have x01 := C1.out
    have x10 := D0.out
    have x11 := D1.out
    go_wp2_with (fail)
    clear x00 x01 x10 x11
    refine Calls.mono (c_GeometricProduct_ok (P : Int) (some ⟨gQ, 0, none⟩) 2 2 [s1, s2] (some ⟨gX, 0, none⟩) 4 cX x (some ⟨gY, 0, none⟩) 4 cY y v7 (by omega) (by omega) (by omega) RSQ.out.rd RX.out.rd RY.out.rd (codeM_two0 HSB.out HGX.out HGY.out)) ?_
    rintro e v8 ⟨rM, kM, rfl, ho, gg⟩
    rw [quat_prod (by omega) rfl HGX.out.1 HGY.out.1] at ho
    obtain ⟨gM, rfl⟩ := ho.addr (by omega)
    have RM := Lib.hid (ho.mono (show S.g + 1 ≤ _ from HS.out.lt))
    clear ho
    replace E0 := Lib.hid (E0.out.trans gg)
    replace HS := Lib.hid ((Drw.of_ext (S := S) gg).src HS.out)
    replace RST := Lib.hid (RST.out.ext gg)
    replace RSQ := Lib.hid (RSQ.out.ext gg)
    replace RX := Lib.hid (RX.out.ext gg)
    replace RY := Lib.hid (RY.out.ext gg)
    replace RZ := Lib.hid (RZ.out.ext gg)
    replace RT := Lib.hid (RT.out.ext gg)
    replace C0 := Lib.hid (gg.cell (p := ⟨OD, 0, none⟩) C0.out)
    replace C1 := Lib.hid (gg.cell (p := ⟨OD, 1, none⟩) C1.out)
    replace D0 := Lib.hid (gg.cell (p := ⟨OS, 0, none⟩) D0.out)
    replace D1 := Lib.hid (gg.cell (p := ⟨OS, 1, none⟩) D1.out)
    clear gg
    have x00 := C0.out
    have x01 := C1.out
    have x10 := D0.out
    have x11 := D1.out
    go_wp2_with (fail)
    clear x00 x01 x10 x11
    refine Calls.mono (c_DoubleConjugate_ok (P : Int) (some ⟨gS, 0, none⟩) 2 2 4 [s1, s2] (some ⟨gX, 0, none⟩) cX x v8 HDB.out (by decide) (by omega) RST.out.rd hcx RX.out.rd HGX.out) ?_
    rintro e v9 ⟨gV, kV, rfl, ho, gg⟩
    have RV := Lib.hid (ho.mono (show S.g + 1 ≤ _ from HS.out.lt))
    clear ho
    replace E0 := Lib.hid (E0.out.trans gg)
    replace HS := Lib.hid ((Drw.of_ext (S := S) gg).src HS.out)
    replace RST := Lib.hid (RST.out.ext gg)
    replace RSQ := Lib.hid (RSQ.out.ext gg)
    replace RX := Lib.hid (RX.out.ext gg)
    replace RY := Lib.hid (RY.out.ext gg)
    replace RZ := Lib.hid (RZ.out.ext gg)
    replace RT := Lib.hid (RT.out.ext gg)
    replace RM := Lib.hid (RM.out.ext gg)
    replace C0 := Lib.hid (gg.cell (p := ⟨OD, 0, none⟩) C0.out)
    replace C1 := Lib.hid (gg.cell (p := ⟨OD, 1, none⟩) C1.out)
    replace D0 := Lib.hid (gg.cell (p := ⟨OS, 0, none⟩) D0.out)
    replace D1 := Lib.hid (gg.cell (p := ⟨OS, 1, none⟩) D1.out)
    clear gg
    have x00 := C0.out
    have x01 := C1.out
    have x10 := D0.out
    have x11 := D1.out
    go_wp2_with (fail)
    clear x00 x01 x10 x11
    refine Calls.mono (c_ConjugateOf_ok (P : Int) (some ⟨gQ, 0, none⟩) 2 2 [s1, s2] gX 0 cX x v9 (by decide) HSB.out RSQ.out.rd RX.out.rd HGX.out) ?_
    rintro e v10 ⟨gU, kU, rfl, ho, gg⟩
    rw [conj_two (by omega) HGX.out] at ho
    have RU := Lib.hid (ho.mono (show S.g + 1 ≤ _ from HS.out.lt))
    clear ho
    replace E0 := Lib.hid (E0.out.trans gg)
    replace HS := Lib.hid ((Drw.of_ext (S := S) gg).src HS.out)
    replace RST := Lib.hid (RST.out.ext gg)
    replace RSQ := Lib.hid (RSQ.out.ext gg)
    replace RX := Lib.hid (RX.out.ext gg)
    replace RY := Lib.hid (RY.out.ext gg)
    replace RZ := Lib.hid (RZ.out.ext gg)
    replace RT := Lib.hid (RT.out.ext gg)
    replace RM := Lib.hid (RM.out.ext gg)
    replace RV := Lib.hid (RV.out.ext gg)
    replace C0 := Lib.hid (gg.cell (p := ⟨OD, 0, none⟩) C0.out)
    replace C1 := Lib.hid (gg.cell (p := ⟨OD, 1, none⟩) C1.out)
    replace D0 := Lib.hid (gg.cell (p := ⟨OS, 0, none⟩) D0.out)
    replace D1 := Lib.hid (gg.cell (p := ⟨OS, 1, none⟩) D1.out)
    clear gg
    have x00 := C0.out
    have x01 := C1.out
    have x10 := D0.out
    have x11 := D1.out
    go_wp2_with (fail)
    clear x00 x01 x10 x11
    have H := l_like (some ⟨gZ, 0, none⟩) (some ⟨gT, 0, none⟩) 4 4 kZ kT _ _ v10 (by omega) (by omega) RZ.out.rd RT.out.rd
    rw [eqB_self] at H
    refine Calls.mono H ?_
    clear H
    rintro e v11 ⟨rfl, gg⟩
    replace E0 := Lib.hid (E0.out.trans gg)
    replace HS := Lib.hid ((Drw.of_ext (S := S) gg).src HS.out)
    replace RST := Lib.hid (RST.out.ext gg)
    replace RSQ := Lib.hid (RSQ.out.ext gg)
    replace RX := Lib.hid (RX.out.ext gg)
    replace RY := Lib.hid (RY.out.ext gg)
    replace RZ := Lib.hid (RZ.out.ext gg)
    replace RT := Lib.hid (RT.out.ext gg)
    replace RM := Lib.hid (RM.out.ext gg)
    replace RV := Lib.hid (RV.out.ext gg)
    replace RU := Lib.hid (RU.out.ext gg)
    replace C0 := Lib.hid (gg.cell (p := ⟨OD, 0, none⟩) C0.out)
    replace C1 := Lib.hid (gg.cell (p := ⟨OD, 1, none⟩) C1.out)
    replace D0 := Lib.hid (gg.cell (p := ⟨OS, 0, none⟩) D0.out)
    replace D1 := Lib.hid (gg.cell (p := ⟨OS, 1, none⟩) D1.out)
    clear gg
    have x00 := C0.out
    have x01 := C1.out
    have x10 := D0.out
    have x11 := D1.out
    go_wp2_with (fail)
    clear x00 x01 x10 x11
    have H := l_like (some ⟨gM, 0, none⟩) (some ⟨gZ, 0, none⟩) 4 4 kM kZ _ _ v11 (by omega) (by omega) RM.out.rd RZ.out.rd
    rw [eqB_self] at H
    refine Calls.mono H ?_
    clear H
    rintro e v12 ⟨rfl, gg⟩
    replace E0 := Lib.hid (E0.out.trans gg)
    replace HS := Lib.hid ((Drw.of_ext (S := S) gg).src HS.out)
    replace RST := Lib.hid (RST.out.ext gg)
    replace RSQ := Lib.hid (RSQ.out.ext gg)
    replace RX := Lib.hid (RX.out.ext gg)
    replace RY := Lib.hid (RY.out.ext gg)
    replace RZ := Lib.hid (RZ.out.ext gg)
    replace RT := Lib.hid (RT.out.ext gg)
    replace RM := Lib.hid (RM.out.ext gg)
    replace RV := Lib.hid (RV.out.ext gg)
    replace RU := Lib.hid (RU.out.ext gg)
    replace C0 := Lib.hid (gg.cell (p := ⟨OD, 0, none⟩) C0.out)
    replace C1 := Lib.hid (gg.cell (p := ⟨OD, 1, none⟩) C1.out)
    replace D0 := Lib.hid (gg.cell (p := ⟨OS, 0, none⟩) D0.out)
    replace D1 := Lib.hid (gg.cell (p := ⟨OS, 1, none⟩) D1.out)
    clear gg
    have x00 := C0.out
    have x01 := C1.out
    have x10 := D0.out
    have x11 := D1.out
    go_wp2_with (fail)
    clear x00 x01 x10 x11
    have H := l_like (some ⟨gV, 0, none⟩) (some ⟨gU, 0, none⟩) 4 4 kV kU _ _ v12 (by omega) (by omega) RV.out.rd RU.out.rd
    rw [eqB_self] at H
    refine Calls.mono H ?_
    clear H
    rintro e v13 ⟨rfl, gg⟩
    replace E0 := Lib.hid (E0.out.trans gg)
    replace HS := Lib.hid ((Drw.of_ext (S := S) gg).src HS.out)
    replace RST := Lib.hid (RST.out.ext gg)
    replace RSQ := Lib.hid (RSQ.out.ext gg)
    replace RX := Lib.hid (RX.out.ext gg)
    replace RY := Lib.hid (RY.out.ext gg)
    replace RZ := Lib.hid (RZ.out.ext gg)
    replace RT := Lib.hid (RT.out.ext gg)
    replace RM := Lib.hid (RM.out.ext gg)
    replace RV := Lib.hid (RV.out.ext gg)
    replace RU := Lib.hid (RU.out.ext gg)
    replace C0 := Lib.hid (gg.cell (p := ⟨OD, 0, none⟩) C0.out)
    replace C1 := Lib.hid (gg.cell (p := ⟨OD, 1, none⟩) C1.out)
    replace D0 := Lib.hid (gg.cell (p := ⟨OS, 0, none⟩) D0.out)
    replace D1 := Lib.hid (gg.cell (p := ⟨OS, 1, none⟩) D1.out)
    clear gg
    clear RT
    clear RM
    clear RZ
    clear RV
    clear RU
    clear RY
    have x00 := C0.out
    have x01 := C1.out
    have x10 := D0.out
    have x11 := D1.out
    go_wp2_with (fail)
    clear x00 x01 x10 x11
    refine Calls.mono (c_NormDiagonal_ok (P : Int) (some ⟨gS, 0, none⟩) 2 2 4 [s1, s2] v13 HDB.out (by decide) (by omega) RST.out.rd) ?_
    rintro e v14 ⟨gD, kD, rfl, ho, gg⟩
    have RD := Lib.hid (ho.mono (show S.g + 1 ≤ _ from HS.out.lt))
    clear ho
    replace E0 := Lib.hid (E0.out.trans gg)
    replace HS := Lib.hid ((Drw.of_ext (S := S) gg).src HS.out)
    replace RST := Lib.hid (RST.out.ext gg)
    replace RSQ := Lib.hid (RSQ.out.ext gg)
    replace RX := Lib.hid (RX.out.ext gg)
    replace C0 := Lib.hid (gg.cell (p := ⟨OD, 0, none⟩) C0.out)
    replace C1 := Lib.hid (gg.cell (p := ⟨OD, 1, none⟩) C1.out)
    replace D0 := Lib.hid (gg.cell (p := ⟨OS, 0, none⟩) D0.out)
    replace D1 := Lib.hid (gg.cell (p := ⟨OS, 1, none⟩) D1.out)
    clear gg
    obtain ⟨DG, hDG⟩ : ∃ z, z = diagL (P : Int) [s1, s2] 2 4 4 := ⟨_, rfl⟩
    rw [← hDG] at RD
    have HDS := Lib.hid (show spaceB (P : Int) DG = true by rw [hDG]; exact diag_space HPP.out)
    obtain ⟨NV, hNV⟩ : ∃ z, z = normD (P : Int) [s1, s2] 2 x := ⟨_, rfl⟩
    have HNF := Lib.hid (show pairL (P : Int) DG x x 4 = NV by rw [hDG, hNV]; exact (norm_form (by omega) HGX.out.1).symm)
    have HNV := Lib.hid hNV
    have HDG := Lib.hid hDG
    clear hDG hNV
    have y00 := (ext_alloc v14 (.cells #[.int .i64 (P : Int), .slice (some ⟨gD, 0, none⟩) 4 kD] 26)).cell (p := ⟨OD, 0, none⟩) C0.out
    have y01 := (ext_alloc v14 (.cells #[.int .i64 (P : Int), .slice (some ⟨gD, 0, none⟩) 4 kD] 26)).cell (p := ⟨OD, 1, none⟩) C1.out
    have y10 := (ext_alloc v14 (.cells #[.int .i64 (P : Int), .slice (some ⟨gD, 0, none⟩) 4 kD] 26)).cell (p := ⟨OS, 0, none⟩) D0.out
    have y11 := (ext_alloc v14 (.cells #[.int .i64 (P : Int), .slice (some ⟨gD, 0, none⟩) 4 kD] 26)).cell (p := ⟨OS, 1, none⟩) D1.out
    have x00 := C0.out
    have x01 := C1.out
    have x10 := D0.out
    have x11 := D1.out
    go_wp2_with (fail)
    clear x00 x01 x10 x11
    clear y00 y01 y10 y11
    obtain ⟨OF, hOF⟩ : ∃ O2, O2 = v14.heap.size := ⟨_, rfl⟩
    obtain ⟨W7, hW7⟩ : ∃ WW, WW = v14.alloc (.cells #[.int .i64 (P : Int), .slice (some ⟨gD, 0, none⟩) 4 kD] 26) := ⟨_, rfl⟩
    have F0 := Lib.hid (show W7.cell? ⟨OF, 0, none⟩ = some (.int .i64 (P : Int)) by rw [hW7, hOF]; simp)
    have F1 := Lib.hid (show W7.cell? ⟨OF, 1, none⟩ = some (.slice (some ⟨gD, 0, none⟩) 4 kD) by rw [hW7, hOF]; simp)
    have gg : Ext v14 W7 := by rw [hW7]; exact ext_alloc _ _
    have hgOF : OF ≠ S.g := by have := HS.out.lt; omega
    rw [← hOF]
    rw [← hW7]
    clear hOF hW7
    replace E0 := Lib.hid (E0.out.trans gg)
    replace HS := Lib.hid ((Drw.of_ext (S := S) gg).src HS.out)
    replace RST := Lib.hid (RST.out.ext gg)
    replace RSQ := Lib.hid (RSQ.out.ext gg)
    replace RX := Lib.hid (RX.out.ext gg)
    replace RD := Lib.hid (RD.out.ext gg)
    replace C0 := Lib.hid (gg.cell (p := ⟨OD, 0, none⟩) C0.out)
    replace C1 := Lib.hid (gg.cell (p := ⟨OD, 1, none⟩) C1.out)
    replace D0 := Lib.hid (gg.cell (p := ⟨OS, 0, none⟩) D0.out)
    replace D1 := Lib.hid (gg.cell (p := ⟨OS, 1, none⟩) D1.out)
    clear gg
    refine Calls.mono (c_DoubleNorm_ok (P : Int) (some ⟨gS, 0, none⟩) 2 2 4 [s1, s2] (some ⟨gX, 0, none⟩) cX x W7 HDB.out (by decide) (by omega) RST.out.rd hcx RX.out.rd HGX.out) ?_
    rintro e v15 ⟨rfl, gg⟩
    rw [← HNV.out]
    replace E0 := Lib.hid (E0.out.trans gg)
    replace HS := Lib.hid ((Drw.of_ext (S := S) gg).src HS.out)
    replace RST := Lib.hid (RST.out.ext gg)
    replace RSQ := Lib.hid (RSQ.out.ext gg)
    replace RX := Lib.hid (RX.out.ext gg)
    replace RD := Lib.hid (RD.out.ext gg)
    replace C0 := Lib.hid (gg.cell (p := ⟨OD, 0, none⟩) C0.out)
    replace C1 := Lib.hid (gg.cell (p := ⟨OD, 1, none⟩) C1.out)
    replace D0 := Lib.hid (gg.cell (p := ⟨OS, 0, none⟩) D0.out)
    replace D1 := Lib.hid (gg.cell (p := ⟨OS, 1, none⟩) D1.out)
    replace F0 := Lib.hid (gg.cell (p := ⟨OF, 0, none⟩) F0.out)
    replace F1 := Lib.hid (gg.cell (p := ⟨OF, 1, none⟩) F1.out)
    clear gg
    have x00 := C0.out
    have x01 := C1.out
    have x10 := D0.out
    have x11 := D1.out
    have x20 := F0.out
    have x21 := F1.out
    go_wp2_with (fail)
    clear x00 x01 x10 x11 x20 x21
    refine Calls.mono (c_NormOf_ok (P : Int) (some ⟨gD, 0, none⟩) 4 kD DG (some ⟨gX, 0, none⟩) cX x v15 HDS.out RD.out.rd RX.out.rd HGX.out) ?_
    rintro e v16 ⟨rfl, gg⟩
    rw [HNF.out]
    replace E0 := Lib.hid (E0.out.trans gg)
    replace HS := Lib.hid ((Drw.of_ext (S := S) gg).src HS.out)
    replace RST := Lib.hid (RST.out.ext gg)
    replace RSQ := Lib.hid (RSQ.out.ext gg)
    replace RX := Lib.hid (RX.out.ext gg)
    replace RD := Lib.hid (RD.out.ext gg)
    replace C0 := Lib.hid (gg.cell (p := ⟨OD, 0, none⟩) C0.out)
    replace C1 := Lib.hid (gg.cell (p := ⟨OD, 1, none⟩) C1.out)
    replace D0 := Lib.hid (gg.cell (p := ⟨OS, 0, none⟩) D0.out)
    replace D1 := Lib.hid (gg.cell (p := ⟨OS, 1, none⟩) D1.out)
    replace F0 := Lib.hid (gg.cell (p := ⟨OF, 0, none⟩) F0.out)
    replace F1 := Lib.hid (gg.cell (p := ⟨OF, 1, none⟩) F1.out)
    clear gg
    have x00 := C0.out
    have x01 := C1.out
    have x10 := D0.out
    have x11 := D1.out
    have x20 := F0.out
    have x21 := F1.out
    go_wp2_with (fail)
    clear x00 x01 x10 x11 x20 x21
    refine Calls.mono (l_below S (P : Int) v16 HS.out (by omega)) ?_
    rintro e v17 ⟨r9, rfl, hr, gg⟩
    have hrb := hr.2 (by omega)
    obtain ⟨c, rfl⟩ := Int.eq_ofNat_of_zero_le hrb.1
    have hcP : c < P := by omega
    clear hr hrb
    replace E0 := Lib.hid (gg.toExt E0.out hgB)
    replace HS := Lib.hid (gg.src HS.out)
    replace RST := Lib.hid (gg.own RST.out (Nat.lt_succ_self _))
    replace RSQ := Lib.hid (gg.own RSQ.out (Nat.lt_succ_self _))
    replace RX := Lib.hid (gg.own RX.out (Nat.lt_succ_self _))
    replace RD := Lib.hid (gg.own RD.out (Nat.lt_succ_self _))
    replace C0 := Lib.hid (gg.cell (p := ⟨OD, 0, none⟩) hgOD C0.out)
    replace C1 := Lib.hid (gg.cell (p := ⟨OD, 1, none⟩) hgOD C1.out)
    replace D0 := Lib.hid (gg.cell (p := ⟨OS, 0, none⟩) hgOS D0.out)
    replace D1 := Lib.hid (gg.cell (p := ⟨OS, 1, none⟩) hgOS D1.out)
    replace F0 := Lib.hid (gg.cell (p := ⟨OF, 0, none⟩) hgOF F0.out)
    replace F1 := Lib.hid (gg.cell (p := ⟨OF, 1, none⟩) hgOF F1.out)
    clear gg
    obtain ⟨KV, hKV⟩ : ∃ z, z = nth (ctB P ((List.replicate P 0).set 0 1) DG) c := ⟨_, rfl⟩
    have HKV := Lib.hid hKV
    have HKF := Lib.hid (show nth (ctF P ((List.replicate P 0).set 0 1) DG) c = KV by rw [hKV, ct_same (by omega)])
    clear hKV
    have x00 := C0.out
    have x01 := C1.out
    have x10 := D0.out
    have x11 := D1.out
    have x20 := F0.out
    have x21 := F1.out
    go_wp2_with (fail)
    clear x00 x01 x10 x11 x20 x21
    refine Calls.mono (c_CountOfNorm_ok P 4 (some ⟨gS, 0, none⟩) 2 2 [s1, s2] c v17 HDB.out (by decide) (by omega) (by omega) RST.out.rd hcP) ?_
    rintro e v18 ⟨rfl, gg⟩
    rw [← HDG.out, ← HKV.out]
    replace E0 := Lib.hid (E0.out.trans gg)
    replace HS := Lib.hid ((Drw.of_ext (S := S) gg).src HS.out)
    replace RST := Lib.hid (RST.out.ext gg)
    replace RSQ := Lib.hid (RSQ.out.ext gg)
    replace RX := Lib.hid (RX.out.ext gg)
    replace RD := Lib.hid (RD.out.ext gg)
    replace C0 := Lib.hid (gg.cell (p := ⟨OD, 0, none⟩) C0.out)
    replace C1 := Lib.hid (gg.cell (p := ⟨OD, 1, none⟩) C1.out)
    replace D0 := Lib.hid (gg.cell (p := ⟨OS, 0, none⟩) D0.out)
    replace D1 := Lib.hid (gg.cell (p := ⟨OS, 1, none⟩) D1.out)
    replace F0 := Lib.hid (gg.cell (p := ⟨OF, 0, none⟩) F0.out)
    replace F1 := Lib.hid (gg.cell (p := ⟨OF, 1, none⟩) F1.out)
    clear gg
    have x00 := C0.out
    have x01 := C1.out
    have x10 := D0.out
    have x11 := D1.out
    have x20 := F0.out
    have x21 := F1.out
    go_wp2_with (fail)
    clear x00 x01 x10 x11 x20 x21
    refine Calls.mono (c_CountVectors_ok P (some ⟨gD, 0, none⟩) 4 kD DG c v18 HDS.out RD.out.rd hcP) ?_
    rintro e v19 ⟨rfl, gg⟩
    rw [HKF.out]
    replace E0 := Lib.hid (E0.out.trans gg)
    replace HS := Lib.hid ((Drw.of_ext (S := S) gg).src HS.out)
    replace RST := Lib.hid (RST.out.ext gg)
    replace RSQ := Lib.hid (RSQ.out.ext gg)
    replace RX := Lib.hid (RX.out.ext gg)
    replace RD := Lib.hid (RD.out.ext gg)
    replace C0 := Lib.hid (gg.cell (p := ⟨OD, 0, none⟩) C0.out)
    replace C1 := Lib.hid (gg.cell (p := ⟨OD, 1, none⟩) C1.out)
    replace D0 := Lib.hid (gg.cell (p := ⟨OS, 0, none⟩) D0.out)
    replace D1 := Lib.hid (gg.cell (p := ⟨OS, 1, none⟩) D1.out)
    replace F0 := Lib.hid (gg.cell (p := ⟨OF, 0, none⟩) F0.out)
    replace F1 := Lib.hid (gg.cell (p := ⟨OF, 1, none⟩) F1.out)
    clear gg
    have hnn : (NV == NV) = true := by simp
    have hkk : (KV == KV) = true := by simp
    go_wp2_with (fail)
    go_ret
    exact ⟨rfl, E0.out⟩
end Go.Proofs.Ytcocbainookkcaa
