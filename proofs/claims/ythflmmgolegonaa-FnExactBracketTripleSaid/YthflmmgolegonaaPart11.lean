/-
  Contracts and plain laws, part 11: BrkCc, BrkTri, Read, ReadR, ReadD, ReadT.
  No condition.
-/
import Derived.Test.YthflmmgolegonaaPart9
import Derived.Test.YthflmmgolegonaaPart8
import Derived.Maps.AppendAt
import Derived.Test.YthflmmgolegonaaPart10
import Derived.Test.YthflmmgolegonaaPart7
import Derived.Test.YthflmmgolegonaaPart0
import Derived.ProofKit
import Derived.OpenShut
import Derived.ShutString
import Derived.ChangeOld
import Derived.Below
import Derived.Lib.SmallJoins
import Derived.Deep.Matrix
/-
  The check of two triples of matrices in the program.
  No condition.
-/
namespace Go.Proofs.Ythflmmgolegonaa
set_option maxRecDepth 100000
open Go.RowKit

theorem Try.infoM : (Try.prog.info? 25).map (fun i => (i.zero, i.size, i.bytes)) = some (some (.slice none 0 0), 1, 24) := by kernel_rfl
/-- A fresh empty list is appended to as nil. -/
theorem append_emptyM (w : World) (b t : Addr) (m c : Nat) (us : List Value) (ty : TypeId) (hul : us.length = m) (hn : ∀ j u, us[j]? = some u → w.cell? (t.add j) = some u) (hm : 0 < m) (hml : m ≤ 4194304) :
    (Builtin.append_ #[65, 65] ty #[.slice (some b) 0 0, .slice (some t) m c]).run Try.prog w =
    (Builtin.append_ #[65, 65] ty #[.slice none 0 0, .slice (some t) m c]).run Try.prog w := by
  obtain ⟨i0, hi, hz0, hz1, hz2⟩ := info_parts Try.infoM
  have e : Builtin.nextslicecap (0 + m) 0 * i0.bytes ≤ 281474976710656 := by
    rw [hz2]; unfold Builtin.nextslicecap; rw [if_pos (by omega)]; omega
  rw [run_append_grow (P := Try.prog) w 65 ty 25 i0 (.slice none 0 0) Try.underlying65 hi hz0 b 0 0 [] (by simp) (fun j u hj => by simp at hj) t m c us (by simp [hz1, hul]) hn (by omega) (by omega) e,
    run_append_nil (P := Try.prog) w 65 ty 25 i0 (.slice none 0 0) Try.underlying65 hi hz0 t m c us (by simp [hz1, hul]) hn (by omega) (by omega) (by rw [hz2]; omega)]
  simp
/-- Values in a list of the call's own, or none in a fresh one. -/
def OwnM (B : Nat) (w : World) (v : Value) (n : Nat) (us : List Value) : Prop := (n = 0 ∧ us = [] ∧ ∃ g, v = .slice (some ⟨g, 0, none⟩) 0 0) ∨ w.ownsRow B 25 1 v n us
theorem OwnM.ext {B : Nat} {w w' : World} {v : Value} {n : Nat} {us : List Value} (h : OwnM B w v n us) (he : Ext w w') : OwnM B w' v n us := by
  rcases h with h | h
  · exact .inl h
  · exact .inr (ownsRow_ext h he)
theorem run_mats {B : Nat} {w : World} {v : Value} {n gN c : Nat} {us : List Value} {u0 u1 u2 : Value} (hown : OwnM B w v n us) (h0 : w.cell? ⟨gN, 0, none⟩ = some u0) (h1 : w.cell? ⟨gN, 1, none⟩ = some u1) (h2 : w.cell? ⟨gN, 2, none⟩ = some u2) (s0 : u0.oneCell' = true) (s1 : u1.oneCell' = true) (s2 : u2.oneCell' = true) (hn : n ≤ 100) (hB : B ≤ w.heap.size) (ty : TypeId) :
    ∃ g' cap' w', (Builtin.append_ #[65, 65] ty #[v, .slice (some ⟨gN, 0, none⟩) 3 c]).run Try.prog w = .ok (.slice (some ⟨g', 0, none⟩) (n + 3) cap') w' ∧
      w'.ownsRow B 25 1 (.slice (some ⟨g', 0, none⟩) (n + 3) cap') (n + 3) (us ++ [u0, u1, u2]) ∧ (∀ W : World, W.heap.size ≤ B → Ext W w → Ext W w') := by
  obtain ⟨i0, hi, hz0, hz1, hz2⟩ := info_parts Try.infoM
  have hcell : ∀ j u, [u0, u1, u2][j]? = some u → w.cell? ((⟨gN, 0, none⟩ : Addr).add j) = some u := fun j u hj => by
    match j, hj with
    | 0, hj => simp at hj; subst hj; simpa [Addr.add] using h0
    | 1, hj => simp at hj; subst hj; simpa [Addr.add] using h1
    | 2, hj => simp at hj; subst hj; simpa [Addr.add] using h2
    | j + 3, hj => simp at hj
  have hone : ∀ u ∈ [u0, u1, u2], u.oneCell' = true := fun u hu => by
    simp only [List.mem_cons, List.not_mem_nil, or_false] at hu
    rcases hu with rfl | rfl | rfl <;> assumption
  have fin : ∀ v0 : Value, w.ownsRow B 25 1 v0 n us → ∃ g' cap' w', (Builtin.append_ #[65, 65] ty #[v0, .slice (some ⟨gN, 0, none⟩) 3 c]).run Try.prog w = .ok (.slice (some ⟨g', 0, none⟩) (n + 3) cap') w' ∧
      w'.ownsRow B 25 1 (.slice (some ⟨g', 0, none⟩) (n + 3) cap') (n + 3) (us ++ [u0, u1, u2]) ∧ (∀ W : World, W.heap.size ≤ B → Ext W w → Ext W w') := fun v0 hv0 => by
    obtain ⟨v', w', hr, h5, h6, _⟩ := run_append_own (P := Try.prog) w B 65 ty 25 i0 (.slice none 0 0) 1 24 Try.underlying65 hi hz0 hz1 hz2 rfl (by decide) v0 n us hv0
      ⟨gN, 0, none⟩ 3 c [u0, u1, u2] rfl hcell hone (by unfold maxLen; omega) (by omega) hB
    have form : ∃ g cap, v' = .slice (some ⟨g, 0, none⟩) (n + 3) cap := by
      rcases h5.2 with ⟨_, h3⟩ | ⟨g, c, cur, hv, _⟩
      · omega
      · exact ⟨g, c, hv⟩
    obtain ⟨g', cap', rfl⟩ := form
    refine ⟨g', cap', w', hr, h5, fun W hW hE => hE.grown h6 fun k hk => ?_⟩
    rcases hv0.2 with ⟨h7, _⟩ | ⟨g, c, cur, h7, hb, _⟩
    · rw [h7] at hk; cases hk
    · rw [h7] at hk
      simp only [Value.ownBlock, Option.some.injEq] at hk
      omega
  rcases hown with ⟨rfl, rfl, g, rfl⟩ | hown
  · rw [append_emptyM w ⟨g, 0, none⟩ ⟨gN, 0, none⟩ 3 c [u0, u1, u2] ty rfl hcell (by omega) (by omega)]
    exact fin _ (World.ownsRow_nil _ _ _ _)
  · exact fin _ hown
theorem rdM_six {B : Nat} {w : World} {g cap : Nat} {a0 : Option Addr} {n0 c0 : Nat} {M0 : List (List Int)} {a1 : Option Addr} {n1 c1 : Nat} {M1 : List (List Int)} {a2 : Option Addr} {n2 c2 : Nat} {M2 : List (List Int)} {a3 : Option Addr} {n3 c3 : Nat} {M3 : List (List Int)} {a4 : Option Addr} {n4 c4 : Nat} {M4 : List (List Int)} {a5 : Option Addr} {n5 c5 : Nat} {M5 : List (List Int)} (h : w.ownsRow B 25 1 (.slice (some ⟨g, 0, none⟩) 6 cap) 6 [.slice a0 n0 c0, .slice a1 n1 c1, .slice a2 n2 c2, .slice a3 n3 c3, .slice a4 n4 c4, .slice a5 n5 c5]) (hx0 : RdR w a0 n0 M0) (hx1 : RdR w a1 n1 M1) (hx2 : RdR w a2 n2 M2) (hx3 : RdR w a3 n3 M3) (hx4 : RdR w a4 n4 M4) (hx5 : RdR w a5 n5 M5) : RdM w (some ⟨g, 0, none⟩) 6 [M0, M1, M2, M3, M4, M5] := by
  have hcells : ∀ j u, [Value.slice a0 n0 c0, Value.slice a1 n1 c1, Value.slice a2 n2 c2, Value.slice a3 n3 c3, Value.slice a4 n4 c4, Value.slice a5 n5 c5][j]? = some u → j < 6 → w.cell? ⟨g, j, none⟩ = some u := fun j u hj hjn => by
    rcases h.2 with ⟨_, h3⟩ | ⟨g', cc, cur, hv, hb, hh, hc1, hc2, hc3, hc4⟩
    · omega
    · simp only [Value.slice.injEq, Option.some.injEq, Addr.mk.injEq] at hv
      obtain ⟨⟨rfl, _⟩, _⟩ := hv
      rw [← hc4, List.getElem?_take_of_lt (by omega), Array.getElem?_toList] at hj
      simp only [World.cell?, hh]
      simpa using hj
  refine ⟨rfl, fun i hi => ?_⟩
  have h6 : i = 0 ∨ i = 1 ∨ i = 2 ∨ i = 3 ∨ i = 4 ∨ i = 5 := by omega
  rcases h6 with rfl | rfl | rfl | rfl | rfl | rfl
  · exact ⟨g, 0, a0, c0, rfl, (by show w.cell? ⟨g, 0 + 0, none⟩ = some (.slice a0 M0.length c0); rw [hx0.1]; exact hcells 0 _ rfl (by omega)), (by show RdR w a0 M0.length M0; rw [hx0.1]; exact hx0)⟩
  · exact ⟨g, 0, a1, c1, rfl, (by show w.cell? ⟨g, 0 + 1, none⟩ = some (.slice a1 M1.length c1); rw [hx1.1]; exact hcells 1 _ rfl (by omega)), (by show RdR w a1 M1.length M1; rw [hx1.1]; exact hx1)⟩
  · exact ⟨g, 0, a2, c2, rfl, (by show w.cell? ⟨g, 0 + 2, none⟩ = some (.slice a2 M2.length c2); rw [hx2.1]; exact hcells 2 _ rfl (by omega)), (by show RdR w a2 M2.length M2; rw [hx2.1]; exact hx2)⟩
  · exact ⟨g, 0, a3, c3, rfl, (by show w.cell? ⟨g, 0 + 3, none⟩ = some (.slice a3 M3.length c3); rw [hx3.1]; exact hcells 3 _ rfl (by omega)), (by show RdR w a3 M3.length M3; rw [hx3.1]; exact hx3)⟩
  · exact ⟨g, 0, a4, c4, rfl, (by show w.cell? ⟨g, 0 + 4, none⟩ = some (.slice a4 M4.length c4); rw [hx4.1]; exact hcells 4 _ rfl (by omega)), (by show RdR w a4 M4.length M4; rw [hx4.1]; exact hx4)⟩
  · exact ⟨g, 0, a5, c5, rfl, (by show w.cell? ⟨g, 0 + 5, none⟩ = some (.slice a5 M5.length c5); rw [hx5.1]; exact hcells 5 _ rfl (by omega)), (by show RdR w a5 M5.length M5; rw [hx5.1]; exact hx5)⟩
theorem six_len {B : Nat} {M0 M1 M2 M3 M4 M5 : List (List Int)} (h0 : M0.length ≤ B) (h1 : M1.length ≤ B) (h2 : M2.length ≤ B) (h3 : M3.length ≤ B) (h4 : M4.length ≤ B) (h5 : M5.length ≤ B) : ∀ i, i < 6 → (nthM [M0, M1, M2, M3, M4, M5] i).length ≤ B := fun i hi => by
  have h6 : i = 0 ∨ i = 1 ∨ i = 2 ∨ i = 3 ∨ i = 4 ∨ i = 5 := by omega
  rcases h6 with rfl | rfl | rfl | rfl | rfl | rfl <;> assumption
theorem six_row {B : Nat} {M0 M1 M2 M3 M4 M5 : List (List Int)} (h0 : ∀ i, i < M0.length → (nthR M0 i).length ≤ B) (h1 : ∀ i, i < M1.length → (nthR M1 i).length ≤ B) (h2 : ∀ i, i < M2.length → (nthR M2 i).length ≤ B) (h3 : ∀ i, i < M3.length → (nthR M3 i).length ≤ B) (h4 : ∀ i, i < M4.length → (nthR M4 i).length ≤ B) (h5 : ∀ i, i < M5.length → (nthR M5 i).length ≤ B) : ∀ i, i < 6 → ∀ j, j < (nthM [M0, M1, M2, M3, M4, M5] i).length → (nthR (nthM [M0, M1, M2, M3, M4, M5] i) j).length ≤ B := fun i hi => by
  have h6 : i = 0 ∨ i = 1 ∨ i = 2 ∨ i = 3 ∨ i = 4 ∨ i = 5 := by omega
  rcases h6 with rfl | rfl | rfl | rfl | rfl | rfl <;> assumption
theorem wpList_append9 {ops : Array Oper} {rest : List Oper} {Q : Exit → Act → World → Prop} {a : Act} {w w' : World} {o : Oper} {vs vx v : Value} {ty : TypeId} (hgd : o.guard = none) (s x : Operand)
    (hop : o.op = .call { callee := .builtin .append, args := #[s, x], argTypes := #[65, 65] }) (hty : o.type = ty) (hs : a.eval s = vs) (hx : a.eval x = vx)
    (hr : (Builtin.append_ #[65, 65] ty #[vs, vx]).run Try.prog w = .ok v w') (h : wpList Try.prog ops Q rest (a.put o.dst v) w') : wpList Try.prog ops Q (o :: rest) a w := by
  subst hty
  refine wpList_plain hgd fun K hK => ?_
  unfold Oper.wp execOp
  simp only [hop, resolve, invoke, builtin, Sem.run_bind, Sem.run_pure, Result.andThen_ok, List.map_toArray, List.map_cons, List.map_nil, hs, hx, hr]
  exact hK _ _ h
set_option maxHeartbeats 4000000 in
set_option maxRecDepth 100000 in
theorem c_checkTriples (p : Int) (a : Option Addr) (d cap : Nat) (st : List Int) (gL cL : Nat) (a0 : Option Addr) (n0 c0 : Nat) (M0 : List (List Int)) (a1 : Option Addr) (n1 c1 : Nat) (M1 : List (List Int)) (a2 : Option Addr) (n2 c2 : Nat) (M2 : List (List Int)) (a3 : Option Addr) (n3 c3 : Nat) (M3 : List (List Int)) (a4 : Option Addr) (n4 c4 : Nat) (M4 : List (List Int)) (a5 : Option Addr) (n5 c5 : Nat) (M5 : List (List Int)) (w : World) (hd : d ≤ 4194304) (hn0 : n0 ≤ 4194303) (hr0 : ∀ i, i < n0 → (nthR M0 i).length ≤ 4194303) (hn1 : n1 ≤ 4194303) (hr1 : ∀ i, i < n1 → (nthR M1 i).length ≤ 4194303) (hn2 : n2 ≤ 4194303) (hr2 : ∀ i, i < n2 → (nthR M2 i).length ≤ 4194303) (hn3 : n3 ≤ 4194303) (hr3 : ∀ i, i < n3 → (nthR M3 i).length ≤ 4194303) (hn4 : n4 ≤ 4194303) (hr4 : ∀ i, i < n4 → (nthR M4 i).length ≤ 4194303) (hn5 : n5 ≤ 4194303) (hr5 : ∀ i, i < n5 → (nthR M5 i).length ≤ 4194303) (hq : RdC w a d st) (hx0 : RdR w a0 n0 M0) (hx1 : RdR w a1 n1 M1) (hx2 : RdR w a2 n2 M2) (hx3 : RdR w a3 n3 M3) (hx4 : RdR w a4 n4 M4) (hx5 : RdR w a5 n5 M5) (hc0 : w.cell? ⟨gL, 0, none⟩ = some (.slice a0 n0 c0)) (hc1 : w.cell? ⟨gL, 1, none⟩ = some (.slice a1 n1 c1)) (hc2 : w.cell? ⟨gL, 2, none⟩ = some (.slice a2 n2 c2)) (hc3 : w.cell? ⟨gL, 3, none⟩ = some (.slice a3 n3 c3)) (hc4 : w.cell? ⟨gL, 4, none⟩ = some (.slice a4 n4 c4)) (hc5 : w.cell? ⟨gL, 5, none⟩ = some (.slice a5 n5 c5)) :
    Calls Try.prog 44 #[.agg #[.int .i64 p, .slice a d cap], .slice (some ⟨gL, 0, none⟩) 2 cL] w fun e w' => e = .returned (.int .i64 (code14 p st [M0, M1, M2, M3, M4, M5])) ∧ Ext w w' := by
  have HRL0 := Lib.hid hr0
  have HNL0 := Lib.hid hx0.1
  have HRL1 := Lib.hid hr1
  have HNL1 := Lib.hid hx1.1
  have HRL2 := Lib.hid hr2
  have HNL2 := Lib.hid hx2.1
  have HRL3 := Lib.hid hr3
  have HNL3 := Lib.hid hx3.1
  have HRL4 := Lib.hid hr4
  have HNL4 := Lib.hid hx4.1
  have HRL5 := Lib.hid hr5
  have HNL5 := Lib.hid hx5.1
  clear hr0 hr1 hr2 hr3 hr4 hr5
  obtain ⟨W, hW⟩ : ∃ W, W = w.alloc (.cells #[.int .i64 p, .slice a d cap] 30) := ⟨_, rfl⟩
  have E : Hid (Ext w W) := Lib.hid (by rw [hW]; exact ext_alloc _ _)
  have C0 : Hid (W.cell? ⟨w.heap.size, 0, none⟩ = some (.int .i64 p)) := Lib.hid (by rw [hW]; simp)
  have C1 : Hid (W.cell? ⟨w.heap.size, 1, none⟩ = some (.slice a d cap)) := Lib.hid (by rw [hW]; simp)
  have HZ : Hid (W.heap.size = w.heap.size + 1) := Lib.hid (by rw [hW]; simp)
  have HW := Lib.hid hW
  clear hW
  have HQ := Lib.hid (hq.ext E.out)
  have HX0 := Lib.hid (hx0.ext E.out)
  have HX1 := Lib.hid (hx1.ext E.out)
  have HX2 := Lib.hid (hx2.ext E.out)
  have HX3 := Lib.hid (hx3.ext E.out)
  have HX4 := Lib.hid (hx4.ext E.out)
  have HX5 := Lib.hid (hx5.ext E.out)
  clear hq hx0 hx1 hx2 hx3 hx4 hx5
  have K0 := Lib.hid (E.out.cell hc0)
  have K1 := Lib.hid (E.out.cell hc1)
  have K2 := Lib.hid (E.out.cell hc2)
  have K3 := Lib.hid (E.out.cell hc3)
  have K4 := Lib.hid (E.out.cell hc4)
  have K5 := Lib.hid (E.out.cell hc5)
  clear hc0 hc1 hc2 hc3 hc4 hc5
  go_enter Try.func44, Try.ntmps44
  have x00 := C0.out
  have x01 := C1.out
  go_wp2_with (fail)
  clear x00 x01
  rw [← HW.out]
  clear HW
  obtain ⟨gE, hgE⟩ : ∃ z, z = W.heap.size := ⟨_, rfl⟩
  obtain ⟨V, hV⟩ : ∃ z, z = W.alloc (.cells #[] 25) := ⟨_, rfl⟩
  have gg : Ext W V := by rw [hV]; exact ext_alloc _ _
  try rw [← hgE]
  rw [← hV]
  clear hV
  replace E := Lib.hid (E.out.trans gg)
  replace HQ := Lib.hid (HQ.out.ext gg)
  replace HX0 := Lib.hid (HX0.out.ext gg)
  replace HX1 := Lib.hid (HX1.out.ext gg)
  replace HX2 := Lib.hid (HX2.out.ext gg)
  replace HX3 := Lib.hid (HX3.out.ext gg)
  replace HX4 := Lib.hid (HX4.out.ext gg)
  replace HX5 := Lib.hid (HX5.out.ext gg)
  replace C0 := Lib.hid (gg.cell (p := ⟨w.heap.size, 0, none⟩) C0.out)
  replace C1 := Lib.hid (gg.cell (p := ⟨w.heap.size, 1, none⟩) C1.out)
  replace K0 := Lib.hid (gg.cell K0.out)
  replace K1 := Lib.hid (gg.cell K1.out)
  replace K2 := Lib.hid (gg.cell K2.out)
  replace K3 := Lib.hid (gg.cell K3.out)
  replace K4 := Lib.hid (gg.cell K4.out)
  replace K5 := Lib.hid (gg.cell K5.out)
  clear gg
  have HVZ := Lib.hid (Nat.le_refl V.heap.size)
  go_loopw [5, 11] (fun m i wr => ∃ k : Nat, i = .int .i64 k ∧ ((k = 0 ∧ Hid (OwnM V.heap.size wr m 0 [])) ∨ (k = 1 ∧ Hid (OwnM V.heap.size wr m 3 [.slice a0 n0 c0, .slice a1 n1 c1, .slice a2 n2 c2]) ∧ ∃ g cap, m = .slice (some ⟨g, 0, none⟩) 3 cap) ∨ (k = 2 ∧ Hid (OwnM V.heap.size wr m 6 [.slice a0 n0 c0, .slice a1 n1 c1, .slice a2 n2 c2, .slice a3 n3 c3, .slice a4 n4 c4, .slice a5 n5 c5]) ∧ ∃ g cap, m = .slice (some ⟨g, 0, none⟩) 6 cap)) ∧ (k = 0 → ∃ g, m = .slice (some ⟨g, 0, none⟩) 0 0) ∧ Hid (Ext V wr)) (fun _ i _ => 2 - (intOf i).toNat)
  case atStart => exact ⟨0, rfl, .inl ⟨rfl, Lib.hid (.inl ⟨rfl, rfl, _, rfl⟩)⟩, (fun _ => ⟨_, rfl⟩), Lib.hid (Ext.refl _)⟩
  case round =>
    rename World => wr
    obtain ⟨k, rfl, hcase, hzero, HE⟩ := hrel
    rcases hcase with ⟨rfl, OM⟩ | ⟨rfl, OM, gM, cM, rfl⟩ | ⟨rfl, OM, gM, cM, rfl⟩
    · skip
      obtain ⟨gM, rfl⟩ := hzero rfl
      replace E := Lib.hid (E.out.trans HE.out)
      replace HQ := Lib.hid (HQ.out.ext HE.out)
      replace HX0 := Lib.hid (HX0.out.ext HE.out)
      replace HX1 := Lib.hid (HX1.out.ext HE.out)
      replace HX2 := Lib.hid (HX2.out.ext HE.out)
      replace HX3 := Lib.hid (HX3.out.ext HE.out)
      replace HX4 := Lib.hid (HX4.out.ext HE.out)
      replace HX5 := Lib.hid (HX5.out.ext HE.out)
      replace C0 := Lib.hid (HE.out.cell (p := ⟨w.heap.size, 0, none⟩) C0.out)
      replace C1 := Lib.hid (HE.out.cell (p := ⟨w.heap.size, 1, none⟩) C1.out)
      replace K0 := Lib.hid (HE.out.cell K0.out)
      replace K1 := Lib.hid (HE.out.cell K1.out)
      replace K2 := Lib.hid (HE.out.cell K2.out)
      replace K3 := Lib.hid (HE.out.cell K3.out)
      replace K4 := Lib.hid (HE.out.cell K4.out)
      replace K5 := Lib.hid (HE.out.cell K5.out)
      have k0 := K0.out
      have k1 := K1.out
      have k2 := K2.out
      have HSZ := Lib.hid (show V.heap.size ≤ wr.heap.size from HE.out.size')
      have x1 : Ext wr (wr.alloc (.cells #[.slice a0 n0 c0, .slice a1 n1 c1, .slice a2 n2 c2] 38)) := ext_alloc _ _
      have x2 : Ext (wr.alloc (.cells #[.slice a0 n0 c0, .slice a1 n1 c1, .slice a2 n2 c2] 38)) ((wr.alloc (.cells #[.slice a0 n0 c0, .slice a1 n1 c1, .slice a2 n2 c2] 38)).alloc (.cells #[.slice a0 n0 c0, .slice a1 n1 c1, .slice a2 n2 c2] 25)) := ext_alloc _ _
      have hz1 : (wr.alloc (.cells #[.slice a0 n0 c0, .slice a1 n1 c1, .slice a2 n2 c2] 38)).heap.size = wr.heap.size + 1 := by simp
      have m0 : ((wr.alloc (.cells #[.slice a0 n0 c0, .slice a1 n1 c1, .slice a2 n2 c2] 38)).alloc (.cells #[.slice a0 n0 c0, .slice a1 n1 c1, .slice a2 n2 c2] 25)).cell? ⟨wr.heap.size + 1, 0, none⟩ = some (.slice a0 n0 c0) := by rw [← hz1]; simp
      have m1 : ((wr.alloc (.cells #[.slice a0 n0 c0, .slice a1 n1 c1, .slice a2 n2 c2] 38)).alloc (.cells #[.slice a0 n0 c0, .slice a1 n1 c1, .slice a2 n2 c2] 25)).cell? ⟨wr.heap.size + 1, 1, none⟩ = some (.slice a1 n1 c1) := by rw [← hz1]; simp
      have m2 : ((wr.alloc (.cells #[.slice a0 n0 c0, .slice a1 n1 c1, .slice a2 n2 c2] 38)).alloc (.cells #[.slice a0 n0 c0, .slice a1 n1 c1, .slice a2 n2 c2] 25)).cell? ⟨wr.heap.size + 1, 2, none⟩ = some (.slice a2 n2 c2) := by rw [← hz1]; simp
      obtain ⟨gZ, cZ, w5, hr9, ho9, he9⟩ := run_mats (c := 3) (OM.out.ext (x1.trans x2)) m0 m1 m2 rfl rfl rfl (by omega) (Nat.le_trans HSZ.out (x1.trans x2).size') 65
      have OZ := Lib.hid ho9
      have HE5 := Lib.hid (he9 V (Nat.le_refl _) (HE.out.trans (x1.trans x2)))
      have HR9 := Lib.hid hr9
      clear hr9 ho9 he9 m0 m1 m2 x1 x2 hz1 OM HQ HX0 HX1 HX2 HX3 HX4 HX5 K0 HRL0 HNL0 hn0 K1 HRL1 HNL1 hn1 K2 HRL2 HNL2 hn2 K3 HRL3 HNL3 hn3 K4 HRL4 HNL4 hn4 K5 HRL5 HNL5 hn5
      go_wp2_with (at_builtin; refine wpList_append9 rfl (.tmp 15) (.tmp 22) rfl rfl rfl rfl HR9.out ?_)
      go_roundw
      case rel => exact ⟨1, by go_num, .inr (.inl ⟨rfl, Lib.hid (.inr OZ.out), _, _, rfl⟩), (fun h => absurd h (by omega)), HE5⟩
      case measure => simp [intOf]
    · skip
      clear hzero
      replace E := Lib.hid (E.out.trans HE.out)
      replace HQ := Lib.hid (HQ.out.ext HE.out)
      replace HX0 := Lib.hid (HX0.out.ext HE.out)
      replace HX1 := Lib.hid (HX1.out.ext HE.out)
      replace HX2 := Lib.hid (HX2.out.ext HE.out)
      replace HX3 := Lib.hid (HX3.out.ext HE.out)
      replace HX4 := Lib.hid (HX4.out.ext HE.out)
      replace HX5 := Lib.hid (HX5.out.ext HE.out)
      replace C0 := Lib.hid (HE.out.cell (p := ⟨w.heap.size, 0, none⟩) C0.out)
      replace C1 := Lib.hid (HE.out.cell (p := ⟨w.heap.size, 1, none⟩) C1.out)
      replace K0 := Lib.hid (HE.out.cell K0.out)
      replace K1 := Lib.hid (HE.out.cell K1.out)
      replace K2 := Lib.hid (HE.out.cell K2.out)
      replace K3 := Lib.hid (HE.out.cell K3.out)
      replace K4 := Lib.hid (HE.out.cell K4.out)
      replace K5 := Lib.hid (HE.out.cell K5.out)
      have k0 := K3.out
      have k1 := K4.out
      have k2 := K5.out
      have HSZ := Lib.hid (show V.heap.size ≤ wr.heap.size from HE.out.size')
      have x1 : Ext wr (wr.alloc (.cells #[.slice a3 n3 c3, .slice a4 n4 c4, .slice a5 n5 c5] 38)) := ext_alloc _ _
      have x2 : Ext (wr.alloc (.cells #[.slice a3 n3 c3, .slice a4 n4 c4, .slice a5 n5 c5] 38)) ((wr.alloc (.cells #[.slice a3 n3 c3, .slice a4 n4 c4, .slice a5 n5 c5] 38)).alloc (.cells #[.slice a3 n3 c3, .slice a4 n4 c4, .slice a5 n5 c5] 25)) := ext_alloc _ _
      have hz1 : (wr.alloc (.cells #[.slice a3 n3 c3, .slice a4 n4 c4, .slice a5 n5 c5] 38)).heap.size = wr.heap.size + 1 := by simp
      have m0 : ((wr.alloc (.cells #[.slice a3 n3 c3, .slice a4 n4 c4, .slice a5 n5 c5] 38)).alloc (.cells #[.slice a3 n3 c3, .slice a4 n4 c4, .slice a5 n5 c5] 25)).cell? ⟨wr.heap.size + 1, 0, none⟩ = some (.slice a3 n3 c3) := by rw [← hz1]; simp
      have m1 : ((wr.alloc (.cells #[.slice a3 n3 c3, .slice a4 n4 c4, .slice a5 n5 c5] 38)).alloc (.cells #[.slice a3 n3 c3, .slice a4 n4 c4, .slice a5 n5 c5] 25)).cell? ⟨wr.heap.size + 1, 1, none⟩ = some (.slice a4 n4 c4) := by rw [← hz1]; simp
      have m2 : ((wr.alloc (.cells #[.slice a3 n3 c3, .slice a4 n4 c4, .slice a5 n5 c5] 38)).alloc (.cells #[.slice a3 n3 c3, .slice a4 n4 c4, .slice a5 n5 c5] 25)).cell? ⟨wr.heap.size + 1, 2, none⟩ = some (.slice a5 n5 c5) := by rw [← hz1]; simp
      obtain ⟨gZ, cZ, w5, hr9, ho9, he9⟩ := run_mats (c := 3) (OM.out.ext (x1.trans x2)) m0 m1 m2 rfl rfl rfl (by omega) (Nat.le_trans HSZ.out (x1.trans x2).size') 65
      have OZ := Lib.hid ho9
      have HE5 := Lib.hid (he9 V (Nat.le_refl _) (HE.out.trans (x1.trans x2)))
      have HR9 := Lib.hid hr9
      clear hr9 ho9 he9 m0 m1 m2 x1 x2 hz1 OM HQ HX0 HX1 HX2 HX3 HX4 HX5 K0 HRL0 HNL0 hn0 K1 HRL1 HNL1 hn1 K2 HRL2 HNL2 hn2 K3 HRL3 HNL3 hn3 K4 HRL4 HNL4 hn4 K5 HRL5 HNL5 hn5
      go_wp2_with (at_builtin; refine wpList_append9 rfl (.tmp 15) (.tmp 22) rfl rfl rfl rfl HR9.out ?_)
      go_roundw
      case rel => exact ⟨2, by go_num, .inr (.inr ⟨rfl, Lib.hid (.inr OZ.out), _, _, rfl⟩), (fun h => absurd h (by omega)), HE5⟩
      case measure => simp [intOf]
    · clear hzero
      replace E := Lib.hid (E.out.trans HE.out)
      replace HQ := Lib.hid (HQ.out.ext HE.out)
      replace HX0 := Lib.hid (HX0.out.ext HE.out)
      replace HX1 := Lib.hid (HX1.out.ext HE.out)
      replace HX2 := Lib.hid (HX2.out.ext HE.out)
      replace HX3 := Lib.hid (HX3.out.ext HE.out)
      replace HX4 := Lib.hid (HX4.out.ext HE.out)
      replace HX5 := Lib.hid (HX5.out.ext HE.out)
      replace C0 := Lib.hid (HE.out.cell (p := ⟨w.heap.size, 0, none⟩) C0.out)
      replace C1 := Lib.hid (HE.out.cell (p := ⟨w.heap.size, 1, none⟩) C1.out)
      replace K0 := Lib.hid (HE.out.cell K0.out)
      replace K1 := Lib.hid (HE.out.cell K1.out)
      replace K2 := Lib.hid (HE.out.cell K2.out)
      replace K3 := Lib.hid (HE.out.cell K3.out)
      replace K4 := Lib.hid (HE.out.cell K4.out)
      replace K5 := Lib.hid (HE.out.cell K5.out)
      have OS := Lib.hid (OM.out.resolve_left (fun h => by have := h.1; omega))
      have HM6 := Lib.hid (rdM_six OS.out HX0.out HX1.out HX2.out HX3.out HX4.out HX5.out)
      clear OM
      have x00 := C0.out
      have x01 := C1.out
      go_wp2_with (fail)
      clear x00 x01
      refine Calls.mono (c_checkThree p a d cap st none 0 0 [] _ 6 cM [M0, M1, M2, M3, M4, M5] wr hd (by omega) (fun _ hi => absurd hi (Nat.not_lt_zero _)) (by omega) (six_len (by rw [HNL0.out]; exact hn0) (by rw [HNL1.out]; exact hn1) (by rw [HNL2.out]; exact hn2) (by rw [HNL3.out]; exact hn3) (by rw [HNL4.out]; exact hn4) (by rw [HNL5.out]; exact hn5)) (six_row (fun i hi => HRL0.out i (by rw [← HNL0.out]; exact hi)) (fun i hi => HRL1.out i (by rw [← HNL1.out]; exact hi)) (fun i hi => HRL2.out i (by rw [← HNL2.out]; exact hi)) (fun i hi => HRL3.out i (by rw [← HNL3.out]; exact hi)) (fun i hi => HRL4.out i (by rw [← HNL4.out]; exact hi)) (fun i hi => HRL5.out i (by rw [← HNL5.out]; exact hi))) HQ.out (RdR.nilN _ _) HM6.out) ?_
      rintro e v1 ⟨rfl, gg⟩
      rw [code3_mats]
      clear HM6
      replace E := Lib.hid (E.out.trans gg)
      replace HQ := Lib.hid (HQ.out.ext gg)
      replace HX0 := Lib.hid (HX0.out.ext gg)
      replace HX1 := Lib.hid (HX1.out.ext gg)
      replace HX2 := Lib.hid (HX2.out.ext gg)
      replace HX3 := Lib.hid (HX3.out.ext gg)
      replace HX4 := Lib.hid (HX4.out.ext gg)
      replace HX5 := Lib.hid (HX5.out.ext gg)
      replace C0 := Lib.hid (gg.cell (p := ⟨w.heap.size, 0, none⟩) C0.out)
      replace C1 := Lib.hid (gg.cell (p := ⟨w.heap.size, 1, none⟩) C1.out)
      replace K0 := Lib.hid (gg.cell K0.out)
      replace K1 := Lib.hid (gg.cell K1.out)
      replace K2 := Lib.hid (gg.cell K2.out)
      replace K3 := Lib.hid (gg.cell K3.out)
      replace K4 := Lib.hid (gg.cell K4.out)
      replace K5 := Lib.hid (gg.cell K5.out)
      clear gg
      have x00 := C0.out
      have x01 := C1.out
      go_wp2_with (fail)
      clear x00 x01
      go_ret
      exact ⟨rfl, E.out⟩
end Go.Proofs.Ythflmmgolegonaa

/-
  BracketTriple on both sides.
  No condition.
-/
namespace Go.Proofs.Ythflmmgolegonaa
set_option maxRecDepth 100000
open Go.RowKit

theorem wp_region_stepsP {P : Program} {ops : Array Oper} {Q : Exit → Act → World → Prop} {id : Nat} {a : Act} {w : World} (n : Nat) (I : World → Prop) (Post : Act → Act → World → Prop) (hm : P.follows .mixedOrders = true) (hn : ops.size = n)
    (h : wpAnyI P ops .any (strictQ fun e a' w' => e = .normal ∧ Post a a' w') I n (Array.replicate n false) a w.drew) (hk : ∀ a' w', Post a a' w' → Q .normal a' w') : (Code.region id ops true).wp P Q a w := by
  refine Code.wp_mono (Q := fun e a' w' => e = .normal ∧ Post a a' w') ?_ (wp_region_steps n I hm hn h)
  rintro e a' w' ⟨rfl, hp⟩
  exact hk a' w' hp
theorem code15_zero {p : Int} {st : List Int} {M0 M1 M2 M3 M4 M5 : List (List Int)} (h : code14 p st [M0, M1, M2, M3, M4, M5] = 0) : codeD p st = 0 ∧ matE p st.length M0 = true ∧ matE p st.length M1 = true ∧ matE p st.length M2 = true ∧ matE p st.length M3 = true ∧ matE p st.length M4 = true ∧ matE p st.length M5 = true := by
  obtain ⟨h1, h2⟩ := code14_zero h
  simp only [List.all_cons, List.all_nil, Bool.and_true, Bool.and_eq_true] at h2
  exact ⟨h1, h2.1, h2.2.1, h2.2.2.1, h2.2.2.2.1, h2.2.2.2.2.1, h2.2.2.2.2.2⟩

set_option maxHeartbeats 16000000 in
set_option maxRecDepth 100000 in
theorem c_BracketTriple_bad (p : Int) (a : Option Addr) (d : Nat) (st : List Int) (a0 : Option Addr) (n0 : Nat) (M0 : List (List Int)) (a1 : Option Addr) (n1 : Nat) (M1 : List (List Int)) (a2 : Option Addr) (n2 : Nat) (M2 : List (List Int)) (a3 : Option Addr) (n3 : Nat) (M3 : List (List Int)) (a4 : Option Addr) (n4 : Nat) (M4 : List (List Int)) (a5 : Option Addr) (n5 : Nat) (M5 : List (List Int)) (w : World) (hd : d ≤ 4194303) (hn0 : n0 ≤ 4194303) (hr0 : ∀ i, i < n0 → (nthR M0 i).length ≤ 4194303) (hn1 : n1 ≤ 4194303) (hr1 : ∀ i, i < n1 → (nthR M1 i).length ≤ 4194303) (hn2 : n2 ≤ 4194303) (hr2 : ∀ i, i < n2 → (nthR M2 i).length ≤ 4194303) (hn3 : n3 ≤ 4194303) (hr3 : ∀ i, i < n3 → (nthR M3 i).length ≤ 4194303) (hn4 : n4 ≤ 4194303) (hr4 : ∀ i, i < n4 → (nthR M4 i).length ≤ 4194303) (hn5 : n5 ≤ 4194303) (hr5 : ∀ i, i < n5 → (nthR M5 i).length ≤ 4194303) (hq : RdC w a d st) (hx0 : RdR w a0 n0 M0) (hx1 : RdR w a1 n1 M1) (hx2 : RdR w a2 n2 M2) (hx3 : RdR w a3 n3 M3) (hx4 : RdR w a4 n4 M4) (hx5 : RdR w a5 n5 M5) (hc : code14 p st [M0, M1, M2, M3, M4, M5] ≠ 0) :
    Calls Try.prog 28 #[.agg #[.int .i64 p, .slice a d d], .agg #[.slice a0 n0 n0, .slice a1 n1 n1, .slice a2 n2 n2], .agg #[.slice a3 n3 n3, .slice a4 n4 n4, .slice a5 n5 n5]] w fun e w' => ∃ V, e = .returned (.tuple #[V, .int .i64 (code14 p st [M0, M1, M2, M3, M4, M5])]) ∧ Trip w.heap.size w' 0 [] [] [] V ∧ Ext w w' := by
  obtain ⟨O, hO⟩ : ∃ O, O = w.heap.size := ⟨_, rfl⟩
  obtain ⟨U0, hU0⟩ : ∃ W, W = w.alloc (.cells #[.int .i64 p, .slice a d d] 30) := ⟨_, rfl⟩
  obtain ⟨U1, hU1⟩ : ∃ W, W = U0.alloc (.cells #[.slice a0 n0 n0, .slice a1 n1 n1, .slice a2 n2 n2] 38) := ⟨_, rfl⟩
  obtain ⟨U2, hU2⟩ : ∃ W, W = U1.alloc (.cells #[.slice a3 n3 n3, .slice a4 n4 n4, .slice a5 n5 n5] 38) := ⟨_, rfl⟩
  obtain ⟨W, hW⟩ : ∃ W, W = U2.alloc (.cells #[.slice none 0 0, .slice none 0 0, .slice none 0 0] 38) := ⟨_, rfl⟩
  have z0 : U0.heap.size = O + 1 := by rw [hU0, hO]; simp
  have z1 : U1.heap.size = O + 1 + 1 := by rw [hU1]; simp; omega
  have z2 : U2.heap.size = O + 1 + 1 + 1 := by rw [hU2]; simp; omega
  have z3 : W.heap.size = O + 1 + 1 + 1 + 1 := by rw [hW]; simp; omega
  have x0 : Ext w U0 := by rw [hU0]; exact ext_alloc _ _
  have x1 : Ext U0 U1 := by rw [hU1]; exact ext_alloc _ _
  have x2 : Ext U1 U2 := by rw [hU2]; exact ext_alloc _ _
  have x3 : Ext U2 W := by rw [hW]; exact ext_alloc _ _
  have E := Lib.hid (((x0.trans x1).trans x2).trans x3)
  have C0 := Lib.hid (show W.cell? ⟨O, 0, none⟩ = some (.int .i64 p) from ((x1.trans x2).trans x3).cell (by rw [hU0, hO]; simp))
  have C1 := Lib.hid (show W.cell? ⟨O, 1, none⟩ = some (.slice a d d) from ((x1.trans x2).trans x3).cell (by rw [hU0, hO]; simp))
  have TX := Lib.hid (show TrAt W (O + 1) (.slice a0 n0 n0) (.slice a1 n1 n1) (.slice a2 n2 n2) by
    have h := trAt_new U0 (.slice a0 n0 n0) (.slice a1 n1 n1) (.slice a2 n2 n2) 38
    rw [← hU1, z0] at h
    exact h.ext (x2.trans x3))
  have TY := Lib.hid (show TrAt W (O + 1 + 1) (.slice a3 n3 n3) (.slice a4 n4 n4) (.slice a5 n5 n5) by
    have h := trAt_new U1 (.slice a3 n3 n3) (.slice a4 n4 n4) (.slice a5 n5 n5) 38
    rw [← hU2, z1] at h
    exact h.ext x3)
  have TR := Lib.hid (show TrAt W (O + 1 + 1 + 1) (.slice none 0 0) (.slice none 0 0) (.slice none 0 0) by
    have h := trAt_new U2 (.slice none 0 0) (.slice none 0 0) (.slice none 0 0) 38
    rw [← hW, z2] at h
    exact h)
  have HQ := Lib.hid (hq.ext E.out)
  have HX0 := Lib.hid (hx0.ext E.out)
  have HRL0 := Lib.hid hr0
  have HX1 := Lib.hid (hx1.ext E.out)
  have HRL1 := Lib.hid hr1
  have HX2 := Lib.hid (hx2.ext E.out)
  have HRL2 := Lib.hid hr2
  have HX3 := Lib.hid (hx3.ext E.out)
  have HRL3 := Lib.hid hr3
  have HX4 := Lib.hid (hx4.ext E.out)
  have HRL4 := Lib.hid hr4
  have HX5 := Lib.hid (hx5.ext E.out)
  have HRL5 := Lib.hid hr5
  have HU0 := Lib.hid hU0
  have HU1 := Lib.hid hU1
  have HU2 := Lib.hid hU2
  have HW := Lib.hid hW
  have HO := Lib.hid hO
  have HWZ := Lib.hid z3
  clear hq hx0 hr0 hx1 hr1 hx2 hr2 hx3 hr3 hx4 hr4 hx5 hr5 hU0 hU1 hU2 hW z0 z1 z2 z3 x0 x1 x2 x3 hO
  obtain ⟨K, hK⟩ : ∃ K, K = code14 p st [M0, M1, M2, M3, M4, M5] := ⟨_, rfl⟩
  have HK := Lib.hid hK
  rw [← hK] at hc ⊢
  have hkb : (K != 0) = true := by simp [hc]
  clear hK hc
  go_enter Try.func28, Try.ntmps28
  go_wp2_with (fail)
  rw [← HU0.out, ← HO.out]
  rw [← HU1.out]
  rw [← HU2.out]
  rw [← HW.out]
  obtain ⟨V, hV⟩ : ∃ z, z = W.alloc (.cells #[.slice a0 n0 n0, .slice a1 n1 n1, .slice a2 n2 n2, .slice a3 n3 n3, .slice a4 n4 n4, .slice a5 n5 n5] 38) := ⟨_, rfl⟩
  have gg : Ext W V := by rw [hV]; exact ext_alloc _ _
  have hzW : W.heap.size = O + 1 + 1 + 1 + 1 := HWZ.out
  have k0 : V.cell? ⟨O + 1 + 1 + 1 + 1, 0, none⟩ = some (.slice a0 n0 n0) := by rw [hV, ← hzW]; simp
  have k1 : V.cell? ⟨O + 1 + 1 + 1 + 1, 1, none⟩ = some (.slice a1 n1 n1) := by rw [hV, ← hzW]; simp
  have k2 : V.cell? ⟨O + 1 + 1 + 1 + 1, 2, none⟩ = some (.slice a2 n2 n2) := by rw [hV, ← hzW]; simp
  have k3 : V.cell? ⟨O + 1 + 1 + 1 + 1, 3, none⟩ = some (.slice a3 n3 n3) := by rw [hV, ← hzW]; simp
  have k4 : V.cell? ⟨O + 1 + 1 + 1 + 1, 4, none⟩ = some (.slice a4 n4 n4) := by rw [hV, ← hzW]; simp
  have k5 : V.cell? ⟨O + 1 + 1 + 1 + 1, 5, none⟩ = some (.slice a5 n5 n5) := by rw [hV, ← hzW]; simp
  rw [← hV]
  clear hV HW HU0 HU1 HU2 hzW
  replace E := Lib.hid (E.out.trans gg)
  replace HQ := Lib.hid (HQ.out.ext gg)
  replace TX := Lib.hid (TX.out.ext gg)
  replace TY := Lib.hid (TY.out.ext gg)
  replace TR := Lib.hid (TR.out.ext gg)
  replace HX0 := Lib.hid (HX0.out.ext gg)
  replace HX1 := Lib.hid (HX1.out.ext gg)
  replace HX2 := Lib.hid (HX2.out.ext gg)
  replace HX3 := Lib.hid (HX3.out.ext gg)
  replace HX4 := Lib.hid (HX4.out.ext gg)
  replace HX5 := Lib.hid (HX5.out.ext gg)
  replace C0 := Lib.hid (gg.cell (p := ⟨O, 0, none⟩) C0.out)
  replace C1 := Lib.hid (gg.cell (p := ⟨O, 1, none⟩) C1.out)
  clear gg
  refine Calls.mono (c_checkTriples p a d d st (O + 1 + 1 + 1 + 1) 2 a0 n0 n0 M0 a1 n1 n1 M1 a2 n2 n2 M2 a3 n3 n3 M3 a4 n4 n4 M4 a5 n5 n5 M5 V (by omega) hn0 HRL0.out hn1 HRL1.out hn2 HRL2.out hn3 HRL3.out hn4 HRL4.out hn5 HRL5.out HQ.out HX0.out HX1.out HX2.out HX3.out HX4.out HX5.out k0 k1 k2 k3 k4 k5) ?_
  rintro e v1 ⟨rfl, gg⟩
  replace E := Lib.hid (E.out.trans gg)
  replace HQ := Lib.hid (HQ.out.ext gg)
  replace TX := Lib.hid (TX.out.ext gg)
  replace TY := Lib.hid (TY.out.ext gg)
  replace TR := Lib.hid (TR.out.ext gg)
  replace HX0 := Lib.hid (HX0.out.ext gg)
  replace HX1 := Lib.hid (HX1.out.ext gg)
  replace HX2 := Lib.hid (HX2.out.ext gg)
  replace HX3 := Lib.hid (HX3.out.ext gg)
  replace HX4 := Lib.hid (HX4.out.ext gg)
  replace HX5 := Lib.hid (HX5.out.ext gg)
  replace C0 := Lib.hid (gg.cell (p := ⟨O, 0, none⟩) C0.out)
  replace C1 := Lib.hid (gg.cell (p := ⟨O, 1, none⟩) C1.out)
  clear gg
  clear k0 HRL0 k1 HRL1 k2 HRL2 k3 HRL3 k4 HRL4 k5 HRL5
  rw [← HK.out]
  have r0 := TR.out.c0
  have r1 := TR.out.c1
  have r2 := TR.out.c2
  have f0 := TR.out.f0
  have f1 := TR.out.f1
  have f2 := TR.out.f2
  have HOL := Lib.hid (show w.heap.size ≤ O + 1 + 1 + 1 by have := HO.out; omega)
  have x00 := C0.out
  have x01 := C1.out
  go_wp2_with (fail)
  clear x00 x01
  refine bodyPost_ret (v := .tuple #[.agg #[.slice none 0 0, .slice none 0 0, .slice none 0 0], .int .i64 K]) (by simp [results, Try.results28, go_sem, r0, r1, r2]) rfl ⟨_, rfl, ⟨none, 0, none, 0, none, 0, w.heap.size, w.heap.size, w.heap.size, w.heap.size, w.heap.size, w.heap.size, rfl, Nat.le_refl _, Nat.le_refl _, Nat.le_refl _, Nat.le_refl _, Nat.le_refl _, Nat.le_refl _, (WroteIn.set3.ext E.out HOL.out).size, OwnRH.nil _ _ _, OwnRH.nil _ _ _, OwnRH.nil _ _ _⟩, WroteIn.set3.ext E.out HOL.out⟩
set_option maxHeartbeats 16000000 in
set_option maxRecDepth 100000 in
theorem c_BracketTriple_ok (p : Int) (a : Option Addr) (d : Nat) (st : List Int) (a0 : Option Addr) (n0 : Nat) (M0 : List (List Int)) (a1 : Option Addr) (n1 : Nat) (M1 : List (List Int)) (a2 : Option Addr) (n2 : Nat) (M2 : List (List Int)) (a3 : Option Addr) (n3 : Nat) (M3 : List (List Int)) (a4 : Option Addr) (n4 : Nat) (M4 : List (List Int)) (a5 : Option Addr) (n5 : Nat) (M5 : List (List Int)) (w : World) (hd : d ≤ 4194303) (hn0 : n0 ≤ 4194303) (hr0 : ∀ i, i < n0 → (nthR M0 i).length ≤ 4194303) (hn1 : n1 ≤ 4194303) (hr1 : ∀ i, i < n1 → (nthR M1 i).length ≤ 4194303) (hn2 : n2 ≤ 4194303) (hr2 : ∀ i, i < n2 → (nthR M2 i).length ≤ 4194303) (hn3 : n3 ≤ 4194303) (hr3 : ∀ i, i < n3 → (nthR M3 i).length ≤ 4194303) (hn4 : n4 ≤ 4194303) (hr4 : ∀ i, i < n4 → (nthR M4 i).length ≤ 4194303) (hn5 : n5 ≤ 4194303) (hr5 : ∀ i, i < n5 → (nthR M5 i).length ≤ 4194303) (hq : RdC w a d st) (hx0 : RdR w a0 n0 M0) (hx1 : RdR w a1 n1 M1) (hx2 : RdR w a2 n2 M2) (hx3 : RdR w a3 n3 M3) (hx4 : RdR w a4 n4 M4) (hx5 : RdR w a5 n5 M5) (hc : code14 p st [M0, M1, M2, M3, M4, M5] = 0) :
    Calls Try.prog 28 #[.agg #[.int .i64 p, .slice a d d], .agg #[.slice a0 n0 n0, .slice a1 n1 n1, .slice a2 n2 n2], .agg #[.slice a3 n3 n3, .slice a4 n4 n4, .slice a5 n5 n5]] w fun e w' => ∃ V, e = .returned (.tuple #[V, .int .i64 0]) ∧ Trip w.heap.size w' (2 ^ d) (brkM p M0 M3 (2 ^ d)) (brkM p M1 M4 (2 ^ d)) (brkM p M2 M5 (2 ^ d)) V ∧ Ext w w' := by
  obtain ⟨O, hO⟩ : ∃ O, O = w.heap.size := ⟨_, rfl⟩
  obtain ⟨U0, hU0⟩ : ∃ W, W = w.alloc (.cells #[.int .i64 p, .slice a d d] 30) := ⟨_, rfl⟩
  obtain ⟨U1, hU1⟩ : ∃ W, W = U0.alloc (.cells #[.slice a0 n0 n0, .slice a1 n1 n1, .slice a2 n2 n2] 38) := ⟨_, rfl⟩
  obtain ⟨U2, hU2⟩ : ∃ W, W = U1.alloc (.cells #[.slice a3 n3 n3, .slice a4 n4 n4, .slice a5 n5 n5] 38) := ⟨_, rfl⟩
  obtain ⟨W, hW⟩ : ∃ W, W = U2.alloc (.cells #[.slice none 0 0, .slice none 0 0, .slice none 0 0] 38) := ⟨_, rfl⟩
  have z0 : U0.heap.size = O + 1 := by rw [hU0, hO]; simp
  have z1 : U1.heap.size = O + 1 + 1 := by rw [hU1]; simp; omega
  have z2 : U2.heap.size = O + 1 + 1 + 1 := by rw [hU2]; simp; omega
  have z3 : W.heap.size = O + 1 + 1 + 1 + 1 := by rw [hW]; simp; omega
  have x0 : Ext w U0 := by rw [hU0]; exact ext_alloc _ _
  have x1 : Ext U0 U1 := by rw [hU1]; exact ext_alloc _ _
  have x2 : Ext U1 U2 := by rw [hU2]; exact ext_alloc _ _
  have x3 : Ext U2 W := by rw [hW]; exact ext_alloc _ _
  have E := Lib.hid (((x0.trans x1).trans x2).trans x3)
  have C0 := Lib.hid (show W.cell? ⟨O, 0, none⟩ = some (.int .i64 p) from ((x1.trans x2).trans x3).cell (by rw [hU0, hO]; simp))
  have C1 := Lib.hid (show W.cell? ⟨O, 1, none⟩ = some (.slice a d d) from ((x1.trans x2).trans x3).cell (by rw [hU0, hO]; simp))
  have TX := Lib.hid (show TrAt W (O + 1) (.slice a0 n0 n0) (.slice a1 n1 n1) (.slice a2 n2 n2) by
    have h := trAt_new U0 (.slice a0 n0 n0) (.slice a1 n1 n1) (.slice a2 n2 n2) 38
    rw [← hU1, z0] at h
    exact h.ext (x2.trans x3))
  have TY := Lib.hid (show TrAt W (O + 1 + 1) (.slice a3 n3 n3) (.slice a4 n4 n4) (.slice a5 n5 n5) by
    have h := trAt_new U1 (.slice a3 n3 n3) (.slice a4 n4 n4) (.slice a5 n5 n5) 38
    rw [← hU2, z1] at h
    exact h.ext x3)
  have TR := Lib.hid (show TrAt W (O + 1 + 1 + 1) (.slice none 0 0) (.slice none 0 0) (.slice none 0 0) by
    have h := trAt_new U2 (.slice none 0 0) (.slice none 0 0) (.slice none 0 0) 38
    rw [← hW, z2] at h
    exact h)
  have HQ := Lib.hid (hq.ext E.out)
  have HX0 := Lib.hid (hx0.ext E.out)
  have HRL0 := Lib.hid hr0
  have HX1 := Lib.hid (hx1.ext E.out)
  have HRL1 := Lib.hid hr1
  have HX2 := Lib.hid (hx2.ext E.out)
  have HRL2 := Lib.hid hr2
  have HX3 := Lib.hid (hx3.ext E.out)
  have HRL3 := Lib.hid hr3
  have HX4 := Lib.hid (hx4.ext E.out)
  have HRL4 := Lib.hid hr4
  have HX5 := Lib.hid (hx5.ext E.out)
  have HRL5 := Lib.hid hr5
  have HU0 := Lib.hid hU0
  have HU1 := Lib.hid hU1
  have HU2 := Lib.hid hU2
  have HW := Lib.hid hW
  have HO := Lib.hid hO
  have HWZ := Lib.hid z3
  clear hq hx0 hr0 hx1 hr1 hx2 hr2 hx3 hr3 hx4 hr4 hx5 hr5 hU0 hU1 hU2 hW z0 z1 z2 z3 x0 x1 x2 x3 hO
  have HK := Lib.hid hc
  obtain ⟨hD, e0, e1, e2, e3, e4, e5⟩ := code15_zero hc
  obtain ⟨hdb, hd3⟩ := codeD_zero hD
  have hpb := prime_bd (doub_of hdb).1
  have hsl : st.length = d := HQ.out.1
  rw [hsl] at hd3 e0 e1 e2 e3 e4 e5
  obtain ⟨N, hN⟩ : ∃ N, N = 2 ^ d := ⟨_, rfl⟩
  have hN6 : N ≤ 64 := by rw [hN]; exact pow_le64 (by omega)
  have hN0 : 0 < N := by rw [hN]; exact pow_pos' d
  have G0 := Lib.hid (show RowsG p N M0 by rw [hN]; exact (matE_of e0).1)
  have l0 : n0 = N := by rw [hN]; exact HX0.out.1.symm.trans (matE_of e0).2
  have G1 := Lib.hid (show RowsG p N M1 by rw [hN]; exact (matE_of e1).1)
  have l1 : n1 = N := by rw [hN]; exact HX1.out.1.symm.trans (matE_of e1).2
  have G2 := Lib.hid (show RowsG p N M2 by rw [hN]; exact (matE_of e2).1)
  have l2 : n2 = N := by rw [hN]; exact HX2.out.1.symm.trans (matE_of e2).2
  have G3 := Lib.hid (show RowsG p N M3 by rw [hN]; exact (matE_of e3).1)
  have l3 : n3 = N := by rw [hN]; exact HX3.out.1.symm.trans (matE_of e3).2
  have G4 := Lib.hid (show RowsG p N M4 by rw [hN]; exact (matE_of e4).1)
  have l4 : n4 = N := by rw [hN]; exact HX4.out.1.symm.trans (matE_of e4).2
  have G5 := Lib.hid (show RowsG p N M5 by rw [hN]; exact (matE_of e5).1)
  have l5 : n5 = N := by rw [hN]; exact HX5.out.1.symm.trans (matE_of e5).2
  rw [← hN]
  clear hc hD hdb hsl hN e0 e1 e2 e3 e4 e5
  subst l0
  obtain rfl : n0 = n1 := l1.symm
  obtain rfl : n0 = n2 := l2.symm
  obtain rfl : n0 = n3 := l3.symm
  obtain rfl : n0 = n4 := l4.symm
  obtain rfl : n0 = n5 := l5.symm
  go_enter Try.func28, Try.ntmps28
  go_wp2_with (fail)
  rw [← HU0.out, ← HO.out]
  rw [← HU1.out]
  rw [← HU2.out]
  rw [← HW.out]
  obtain ⟨V, hV⟩ : ∃ z, z = W.alloc (.cells #[.slice a0 n0 n0, .slice a1 n0 n0, .slice a2 n0 n0, .slice a3 n0 n0, .slice a4 n0 n0, .slice a5 n0 n0] 38) := ⟨_, rfl⟩
  have gg : Ext W V := by rw [hV]; exact ext_alloc _ _
  have hzW : W.heap.size = O + 1 + 1 + 1 + 1 := HWZ.out
  have k0 : V.cell? ⟨O + 1 + 1 + 1 + 1, 0, none⟩ = some (.slice a0 n0 n0) := by rw [hV, ← hzW]; simp
  have k1 : V.cell? ⟨O + 1 + 1 + 1 + 1, 1, none⟩ = some (.slice a1 n0 n0) := by rw [hV, ← hzW]; simp
  have k2 : V.cell? ⟨O + 1 + 1 + 1 + 1, 2, none⟩ = some (.slice a2 n0 n0) := by rw [hV, ← hzW]; simp
  have k3 : V.cell? ⟨O + 1 + 1 + 1 + 1, 3, none⟩ = some (.slice a3 n0 n0) := by rw [hV, ← hzW]; simp
  have k4 : V.cell? ⟨O + 1 + 1 + 1 + 1, 4, none⟩ = some (.slice a4 n0 n0) := by rw [hV, ← hzW]; simp
  have k5 : V.cell? ⟨O + 1 + 1 + 1 + 1, 5, none⟩ = some (.slice a5 n0 n0) := by rw [hV, ← hzW]; simp
  rw [← hV]
  clear hV HW HU0 HU1 HU2 hzW
  replace E := Lib.hid (E.out.trans gg)
  replace HQ := Lib.hid (HQ.out.ext gg)
  replace TX := Lib.hid (TX.out.ext gg)
  replace TY := Lib.hid (TY.out.ext gg)
  replace TR := Lib.hid (TR.out.ext gg)
  replace HX0 := Lib.hid (HX0.out.ext gg)
  replace HX1 := Lib.hid (HX1.out.ext gg)
  replace HX2 := Lib.hid (HX2.out.ext gg)
  replace HX3 := Lib.hid (HX3.out.ext gg)
  replace HX4 := Lib.hid (HX4.out.ext gg)
  replace HX5 := Lib.hid (HX5.out.ext gg)
  replace C0 := Lib.hid (gg.cell (p := ⟨O, 0, none⟩) C0.out)
  replace C1 := Lib.hid (gg.cell (p := ⟨O, 1, none⟩) C1.out)
  clear gg
  refine Calls.mono (c_checkTriples p a d d st (O + 1 + 1 + 1 + 1) 2 a0 n0 n0 M0 a1 n0 n0 M1 a2 n0 n0 M2 a3 n0 n0 M3 a4 n0 n0 M4 a5 n0 n0 M5 V (by omega) hn0 HRL0.out hn1 HRL1.out hn2 HRL2.out hn3 HRL3.out hn4 HRL4.out hn5 HRL5.out HQ.out HX0.out HX1.out HX2.out HX3.out HX4.out HX5.out k0 k1 k2 k3 k4 k5) ?_
  rintro e v1 ⟨rfl, gg⟩
  replace E := Lib.hid (E.out.trans gg)
  replace HQ := Lib.hid (HQ.out.ext gg)
  replace TX := Lib.hid (TX.out.ext gg)
  replace TY := Lib.hid (TY.out.ext gg)
  replace TR := Lib.hid (TR.out.ext gg)
  replace HX0 := Lib.hid (HX0.out.ext gg)
  replace HX1 := Lib.hid (HX1.out.ext gg)
  replace HX2 := Lib.hid (HX2.out.ext gg)
  replace HX3 := Lib.hid (HX3.out.ext gg)
  replace HX4 := Lib.hid (HX4.out.ext gg)
  replace HX5 := Lib.hid (HX5.out.ext gg)
  replace C0 := Lib.hid (gg.cell (p := ⟨O, 0, none⟩) C0.out)
  replace C1 := Lib.hid (gg.cell (p := ⟨O, 1, none⟩) C1.out)
  clear gg
  clear k0 HRL0 k1 HRL1 k2 HRL2 k3 HRL3 k4 HRL4 k5 HRL5
  rw [HK.out]
  have x00 := C0.out
  have x01 := C1.out
  go_wp2_with (fail)
  clear x00 x01
  refine Calls.mono (c_dfield p (.slice a d d) v1) ?_
  rintro e v2 ⟨rfl, gg⟩
  replace E := Lib.hid (E.out.trans gg)
  replace HQ := Lib.hid (HQ.out.ext gg)
  replace TX := Lib.hid (TX.out.ext gg)
  replace TY := Lib.hid (TY.out.ext gg)
  replace TR := Lib.hid (TR.out.ext gg)
  replace HX0 := Lib.hid (HX0.out.ext gg)
  replace HX1 := Lib.hid (HX1.out.ext gg)
  replace HX2 := Lib.hid (HX2.out.ext gg)
  replace HX3 := Lib.hid (HX3.out.ext gg)
  replace HX4 := Lib.hid (HX4.out.ext gg)
  replace HX5 := Lib.hid (HX5.out.ext gg)
  replace C0 := Lib.hid (gg.cell (p := ⟨O, 0, none⟩) C0.out)
  replace C1 := Lib.hid (gg.cell (p := ⟨O, 1, none⟩) C1.out)
  clear gg
  have x00 := C0.out
  have x01 := C1.out
  go_wp2_with (fail)
  clear x00 x01
  obtain ⟨v0, hv0⟩ : ∃ z, z = v2.drew := ⟨_, rfl⟩
  have HV0 := Lib.hid hv0
  have gg : Ext v2 v0 := by rw [hv0]; exact ext_drew _
  clear hv0
  replace E := Lib.hid (E.out.trans gg)
  replace HQ := Lib.hid (HQ.out.ext gg)
  replace TX := Lib.hid (TX.out.ext gg)
  replace TY := Lib.hid (TY.out.ext gg)
  replace TR := Lib.hid (TR.out.ext gg)
  replace HX0 := Lib.hid (HX0.out.ext gg)
  replace HX1 := Lib.hid (HX1.out.ext gg)
  replace HX2 := Lib.hid (HX2.out.ext gg)
  replace HX3 := Lib.hid (HX3.out.ext gg)
  replace HX4 := Lib.hid (HX4.out.ext gg)
  replace HX5 := Lib.hid (HX5.out.ext gg)
  replace C0 := Lib.hid (gg.cell (p := ⟨O, 0, none⟩) C0.out)
  replace C1 := Lib.hid (gg.cell (p := ⟨O, 1, none⟩) C1.out)
  clear gg
  obtain ⟨J, hJ⟩ : ∃ J : World → Prop, J = (fun w' => w'.cell? ⟨O, 0, none⟩ = some (.int .i64 p) ∧ TrAt w' (O + 1) (.slice a0 n0 n0) (.slice a1 n0 n0) (.slice a2 n0 n0) ∧ TrAt w' (O + 1 + 1) (.slice a3 n0 n0) (.slice a4 n0 n0) (.slice a5 n0 n0)) := ⟨_, rfl⟩
  have HJ : Hid (∀ w', w'.cell? ⟨O, 0, none⟩ = some (.int .i64 p) → TrAt w' (O + 1) (.slice a0 n0 n0) (.slice a1 n0 n0) (.slice a2 n0 n0) → TrAt w' (O + 1 + 1) (.slice a3 n0 n0) (.slice a4 n0 n0) (.slice a5 n0 n0) → J w') := Lib.hid (fun w' h1 h2 h3 => by rw [hJ]; exact ⟨h1, h2, h3⟩)
  have HJ2 : Hid (∀ w', J w' → w'.cell? ⟨O, 0, none⟩ = some (.int .i64 p) ∧ TrAt w' (O + 1) (.slice a0 n0 n0) (.slice a1 n0 n0) (.slice a2 n0 n0) ∧ TrAt w' (O + 1 + 1) (.slice a3 n0 n0) (.slice a4 n0 n0) (.slice a5 n0 n0)) := Lib.hid (fun w' h => by rw [hJ] at h; exact h)
  clear hJ
  have X0 := Lib.hid (Ext.refl v0)
  have hlt9 := TR.out.lt
  refine wp_region_steps 21 J (by kernel_rfl) rfl ?_
  rw [← HV0.out]
  clear HV0
  refine stepsI_float (i := 0) (v := ?_) (some 21) (by kernel_rfl) rfl rfl rfl (fun w' hI => ?_) ?_
  rotate_left
  · go_simp; rfl
  simp only [Act.put, List.setIfInBounds_toArray, List.set_cons_zero, List.set_cons_succ]
  refine stepsI_float (i := 1) (v := ?_) (some 22) (by kernel_rfl) rfl rfl rfl (fun w' hI => ?_) ?_
  rotate_left
  · go_simp; rfl
  simp only [Act.put, List.setIfInBounds_toArray, List.set_cons_zero, List.set_cons_succ]
  refine stepsI_float (i := 2) (v := ?_) (some 23) (by kernel_rfl) rfl rfl rfl (fun w' hI => ?_) ?_
  rotate_left
  · obtain ⟨e0, t1, t2⟩ := HJ2.out w' hI; have q0 := t1.c0; have q1 := t1.c1; have q2 := t1.c2; have q3 := t2.c0; have q4 := t2.c1; have q5 := t2.c2; clear t1 t2; go_simp; rfl
  simp only [Act.put, List.setIfInBounds_toArray, List.set_cons_zero, List.set_cons_succ]
  refine stepsI_float (i := 3) (v := ?_) (some 24) (by kernel_rfl) rfl rfl rfl (fun w' hI => ?_) ?_
  rotate_left
  · go_simp; rfl
  simp only [Act.put, List.setIfInBounds_toArray, List.set_cons_zero, List.set_cons_succ]
  refine stepsI_float (i := 4) (v := ?_) (some 25) (by kernel_rfl) rfl rfl rfl (fun w' hI => ?_) ?_
  rotate_left
  · obtain ⟨e0, t1, t2⟩ := HJ2.out w' hI; have q0 := t1.c0; have q1 := t1.c1; have q2 := t1.c2; have q3 := t2.c0; have q4 := t2.c1; have q5 := t2.c2; clear t1 t2; go_simp; rfl
  simp only [Act.put, List.setIfInBounds_toArray, List.set_cons_zero, List.set_cons_succ]
  refine stepsI_float (i := 6) (v := ?_) (some 27) (by kernel_rfl) rfl rfl rfl (fun w' hI => ?_) ?_
  rotate_left
  · go_simp; rfl
  simp only [Act.put, List.setIfInBounds_toArray, List.set_cons_zero, List.set_cons_succ]
  refine stepsI_float (i := 7) (v := ?_) (some 28) (by kernel_rfl) rfl rfl rfl (fun w' hI => ?_) ?_
  rotate_left
  · go_simp; rfl
  simp only [Act.put, List.setIfInBounds_toArray, List.set_cons_zero, List.set_cons_succ]
  refine stepsI_float (i := 8) (v := ?_) (some 29) (by kernel_rfl) rfl rfl rfl (fun w' hI => ?_) ?_
  rotate_left
  · obtain ⟨e0, t1, t2⟩ := HJ2.out w' hI; have q0 := t1.c0; have q1 := t1.c1; have q2 := t1.c2; have q3 := t2.c0; have q4 := t2.c1; have q5 := t2.c2; clear t1 t2; go_simp; rfl
  simp only [Act.put, List.setIfInBounds_toArray, List.set_cons_zero, List.set_cons_succ]
  refine stepsI_float (i := 9) (v := ?_) (some 30) (by kernel_rfl) rfl rfl rfl (fun w' hI => ?_) ?_
  rotate_left
  · go_simp; rfl
  simp only [Act.put, List.setIfInBounds_toArray, List.set_cons_zero, List.set_cons_succ]
  refine stepsI_float (i := 10) (v := ?_) (some 31) (by kernel_rfl) rfl rfl rfl (fun w' hI => ?_) ?_
  rotate_left
  · obtain ⟨e0, t1, t2⟩ := HJ2.out w' hI; have q0 := t1.c0; have q1 := t1.c1; have q2 := t1.c2; have q3 := t2.c0; have q4 := t2.c1; have q5 := t2.c2; clear t1 t2; go_simp; rfl
  simp only [Act.put, List.setIfInBounds_toArray, List.set_cons_zero, List.set_cons_succ]
  refine stepsI_float (i := 12) (v := ?_) (some 33) (by kernel_rfl) rfl rfl rfl (fun w' hI => ?_) ?_
  rotate_left
  · go_simp; rfl
  simp only [Act.put, List.setIfInBounds_toArray, List.set_cons_zero, List.set_cons_succ]
  refine stepsI_float (i := 13) (v := ?_) (some 34) (by kernel_rfl) rfl rfl rfl (fun w' hI => ?_) ?_
  rotate_left
  · go_simp; rfl
  simp only [Act.put, List.setIfInBounds_toArray, List.set_cons_zero, List.set_cons_succ]
  refine stepsI_float (i := 14) (v := ?_) (some 35) (by kernel_rfl) rfl rfl rfl (fun w' hI => ?_) ?_
  rotate_left
  · obtain ⟨e0, t1, t2⟩ := HJ2.out w' hI; have q0 := t1.c0; have q1 := t1.c1; have q2 := t1.c2; have q3 := t2.c0; have q4 := t2.c1; have q5 := t2.c2; clear t1 t2; go_simp; rfl
  simp only [Act.put, List.setIfInBounds_toArray, List.set_cons_zero, List.set_cons_succ]
  refine stepsI_float (i := 15) (v := ?_) (some 36) (by kernel_rfl) rfl rfl rfl (fun w' hI => ?_) ?_
  rotate_left
  · go_simp; rfl
  simp only [Act.put, List.setIfInBounds_toArray, List.set_cons_zero, List.set_cons_succ]
  refine stepsI_float (i := 16) (v := ?_) (some 37) (by kernel_rfl) rfl rfl rfl (fun w' hI => ?_) ?_
  rotate_left
  · obtain ⟨e0, t1, t2⟩ := HJ2.out w' hI; have q0 := t1.c0; have q1 := t1.c1; have q2 := t1.c2; have q3 := t2.c0; have q4 := t2.c1; have q5 := t2.c2; clear t1 t2; go_simp; rfl
  simp only [Act.put, List.setIfInBounds_toArray, List.set_cons_zero, List.set_cons_succ]
  refine stepsI_one (i := 5) (HJ.out _ (X0.out.cell C0.out) (TX.out.ext X0.out) (TY.out.ext X0.out)) (by kernel_rfl) ?_
  refine op_call (f := ?_) (args := ?_) (R := fun v w' => ∃ g c, v = .slice (some ⟨g, 0, none⟩) n0 c ∧ OwnR v0.heap.size w' (some ⟨g, 0, none⟩) n0 c (brkM p M0 M3 n0) ∧ Ext v0 w') (some 26) rfl rfl rfl ?_ ?_ ?_
  rotate_left 2
  · go_simp; refine ⟨?_, ?_⟩ <;> rfl
  · refine Calls.mono (c_bracket p a0 n0 n0 M0 a3 n0 M3 v0 (by omega) (by omega) hN0 hN6 (HX0.out.ext X0.out) (HX3.out.ext X0.out) G0.out G3.out) ?_
    rintro e w9 ⟨g9, c9, rfl, ho9, g9'⟩
    exact ⟨_, rfl, g9, c9, rfl, ho9, g9'⟩
  rintro v u1 ⟨gR0, cR0, rfl, ho9, gg⟩
  simp only [Act.put, List.setIfInBounds_toArray, List.set_cons_zero, List.set_cons_succ]
  have X1 := Lib.hid (X0.out.trans gg)
  have OR0 := Lib.hid ho9.high
  have hl0 := gg.size'
  obtain ⟨hi0, hhi0⟩ : ∃ z, z = u1.heap.size := ⟨_, rfl⟩
  obtain ⟨lo0, hlo0⟩ : ∃ z, z = v0.heap.size := ⟨_, rfl⟩
  have hlt0 : O + 1 + 1 + 1 < lo0 := by rw [hlo0]; exact hlt9
  rw [← hlo0, ← hhi0] at OR0 hl0
  have HHI0 := Lib.hid hhi0
  clear ho9 gg hlo0 hhi0
  refine stepsI_one (i := 11) (HJ.out _ (X1.out.cell C0.out) (TX.out.ext X1.out) (TY.out.ext X1.out)) (by kernel_rfl) ?_
  refine op_call (f := ?_) (args := ?_) (R := fun v w' => ∃ g c, v = .slice (some ⟨g, 0, none⟩) n0 c ∧ OwnR u1.heap.size w' (some ⟨g, 0, none⟩) n0 c (brkM p M1 M4 n0) ∧ Ext u1 w') (some 32) rfl rfl rfl ?_ ?_ ?_
  rotate_left 2
  · go_simp; refine ⟨?_, ?_⟩ <;> rfl
  · refine Calls.mono (c_bracket p a1 n0 n0 M1 a4 n0 M4 u1 (by omega) (by omega) hN0 hN6 (HX1.out.ext X1.out) (HX4.out.ext X1.out) G1.out G4.out) ?_
    rintro e w9 ⟨g9, c9, rfl, ho9, g9'⟩
    exact ⟨_, rfl, g9, c9, rfl, ho9, g9'⟩
  rintro v u2 ⟨gR1, cR1, rfl, ho9, gg⟩
  simp only [Act.put, List.setIfInBounds_toArray, List.set_cons_zero, List.set_cons_succ]
  replace OR0 := Lib.hid (OR0.out.ext gg)
  have X2 := Lib.hid (X1.out.trans gg)
  have OR1 := Lib.hid ho9.high
  have hl1 := gg.size'
  obtain ⟨hi1, hhi1⟩ : ∃ z, z = u2.heap.size := ⟨_, rfl⟩
  obtain ⟨lo1, hlo1⟩ : ∃ z, z = u1.heap.size := ⟨_, rfl⟩
  have hll1 : hi0 ≤ lo1 := by rw [hlo1, HHI0.out]; exact Nat.le_refl _
  rw [← hlo1, ← hhi1] at OR1 hl1
  have HHI1 := Lib.hid hhi1
  clear ho9 gg hlo1 hhi1
  refine stepsI_one (i := 17) (HJ.out _ (X2.out.cell C0.out) (TX.out.ext X2.out) (TY.out.ext X2.out)) (by kernel_rfl) ?_
  refine op_call (f := ?_) (args := ?_) (R := fun v w' => ∃ g c, v = .slice (some ⟨g, 0, none⟩) n0 c ∧ OwnR u2.heap.size w' (some ⟨g, 0, none⟩) n0 c (brkM p M2 M5 n0) ∧ Ext u2 w') (some 38) rfl rfl rfl ?_ ?_ ?_
  rotate_left 2
  · go_simp; refine ⟨?_, ?_⟩ <;> rfl
  · refine Calls.mono (c_bracket p a2 n0 n0 M2 a5 n0 M5 u2 (by omega) (by omega) hN0 hN6 (HX2.out.ext X2.out) (HX5.out.ext X2.out) G2.out G5.out) ?_
    rintro e w9 ⟨g9, c9, rfl, ho9, g9'⟩
    exact ⟨_, rfl, g9, c9, rfl, ho9, g9'⟩
  rintro v u3 ⟨gR2, cR2, rfl, ho9, gg⟩
  simp only [Act.put, List.setIfInBounds_toArray, List.set_cons_zero, List.set_cons_succ]
  replace OR0 := Lib.hid (OR0.out.ext gg)
  replace OR1 := Lib.hid (OR1.out.ext gg)
  have X3 := Lib.hid (X2.out.trans gg)
  have OR2 := Lib.hid ho9.high
  have hl2 := gg.size'
  obtain ⟨hi2, hhi2⟩ : ∃ z, z = u3.heap.size := ⟨_, rfl⟩
  obtain ⟨lo2, hlo2⟩ : ∃ z, z = u2.heap.size := ⟨_, rfl⟩
  have hll2 : hi1 ≤ lo2 := by rw [hlo2, HHI1.out]; exact Nat.le_refl _
  rw [← hlo2, ← hhi2] at OR2 hl2
  have HHI2 := Lib.hid hhi2
  clear ho9 gg hlo2 hhi2
  refine stepsI_float (i := 18) (v := ?_) (some 39) (by kernel_rfl) rfl rfl rfl (fun w' hI => ?_) ?_
  rotate_left
  · go_simp; rfl
  simp only [Act.put, List.setIfInBounds_toArray, List.set_cons_zero, List.set_cons_succ]
  refine stepsI_one (i := 19) (HJ.out _ (X3.out.cell C0.out) (TX.out.ext X3.out) (TY.out.ext X3.out)) (by kernel_rfl) ?_
  have TR9 := Lib.hid (TR.out.ext X3.out)
  have q0 := TR9.out.c0
  have q1 := TR9.out.c1
  have q2 := TR9.out.c2
  have q3 := TR9.out.f0
  have q4 := TR9.out.f1
  have q5 := TR9.out.f2
  obtain ⟨y, hy⟩ : ∃ z, z = (((u3.setCell ⟨O + 1 + 1 + 1, 0, none⟩ (.slice (some ⟨gR0, 0, none⟩) n0 cR0)).setCell ⟨O + 1 + 1 + 1, 1, none⟩ (.slice (some ⟨gR1, 0, none⟩) n0 cR1)).setCell ⟨O + 1 + 1 + 1, 2, none⟩ (.slice (some ⟨gR2, 0, none⟩) n0 cR2)) := ⟨_, rfl⟩
  refine op_skip (w' := y) rfl rfl (by rw [hy]; go_simp) ?_
  simp only [Act.put]
  clear q0 q1 q2 q3 q4 q5
  have WW : WroteIn (O + 1 + 1 + 1) (O + 1 + 1 + 1 + 1) u3 y := by rw [hy]; exact WroteIn.set3
  have TZ := Lib.hid (show TrAt y (O + 1 + 1 + 1) (.slice (some ⟨gR0, 0, none⟩) n0 cR0) (.slice (some ⟨gR1, 0, none⟩) n0 cR1) (.slice (some ⟨gR2, 0, none⟩) n0 cR2) by rw [hy]; exact TR9.out.set3)
  have D0 := Lib.hid (WW.cell (X3.out.cell C0.out) (.inl (by show O < _; omega)))
  have DX := Lib.hid ((TX.out.ext X3.out).wrote WW (.inl (by omega)))
  have DY := Lib.hid ((TY.out.ext X3.out).wrote WW (.inl (by omega)))
  have hHI : hi2 ≤ y.heap.size := by rw [HHI2.out]; exact WW.size
  have E9 := Lib.hid (WW.ext (E.out.trans X3.out) (by have := HO.out; omega))
  replace OR0 := Lib.hid (WW.ownR OR0.out (.inr (by omega)))
  replace OR1 := Lib.hid (WW.ownR OR1.out (.inr (by omega)))
  replace OR2 := Lib.hid (WW.ownR OR2.out (.inr (by omega)))
  clear hy WW
  refine stepsI_one (i := 20) (HJ.out _ D0.out DX.out DY.out) (by kernel_rfl) ?_
  refine op_value (v := ?_) (w' := y) (some 7) rfl rfl rfl ?_ ?_
  rotate_left
  · go_simp; rfl
  simp only [Act.put, List.setIfInBounds_toArray]
  refine stepsI_end (HJ.out _ D0.out DX.out DY.out) (by kernel_rfl) ?_
  have r0 := TZ.out.c0
  have r1 := TZ.out.c1
  have r2 := TZ.out.c2
  go_wp2_with (fail)
  refine bodyPost_ret (v := .tuple #[.agg #[.slice (some ⟨gR0, 0, none⟩) n0 cR0, .slice (some ⟨gR1, 0, none⟩) n0 cR1, .slice (some ⟨gR2, 0, none⟩) n0 cR2], .int .i64 0]) (by simp [results, Try.results28, go_sem, r0, r1, r2]) rfl ⟨_, rfl, ⟨_, _, _, _, _, _, lo0, hi0, lo1, hi1, lo2, hi2, rfl, (by have := HO.out; omega), hl0, hll1, hl1, hll2, hl2, hHI, OR0.out, OR1.out, OR2.out⟩, E9.out⟩
set_option maxHeartbeats 16000000 in
set_option maxRecDepth 100000 in
theorem s_BracketTriple_bad (p : Int) (a : Option Addr) (d : Nat) (st : List Int) (a0 : Option Addr) (n0 : Nat) (M0 : List (List Int)) (a1 : Option Addr) (n1 : Nat) (M1 : List (List Int)) (a2 : Option Addr) (n2 : Nat) (M2 : List (List Int)) (a3 : Option Addr) (n3 : Nat) (M3 : List (List Int)) (a4 : Option Addr) (n4 : Nat) (M4 : List (List Int)) (a5 : Option Addr) (n5 : Nat) (M5 : List (List Int)) (w : World) (hd : d ≤ 4194303) (hn0 : n0 ≤ 4194303) (hr0 : ∀ i, i < n0 → (nthR M0 i).length ≤ 4194303) (hn1 : n1 ≤ 4194303) (hr1 : ∀ i, i < n1 → (nthR M1 i).length ≤ 4194303) (hn2 : n2 ≤ 4194303) (hr2 : ∀ i, i < n2 → (nthR M2 i).length ≤ 4194303) (hn3 : n3 ≤ 4194303) (hr3 : ∀ i, i < n3 → (nthR M3 i).length ≤ 4194303) (hn4 : n4 ≤ 4194303) (hr4 : ∀ i, i < n4 → (nthR M4 i).length ≤ 4194303) (hn5 : n5 ≤ 4194303) (hr5 : ∀ i, i < n5 → (nthR M5 i).length ≤ 4194303) (hq : RdC w a d st) (hx0 : RdR w a0 n0 M0) (hx1 : RdR w a1 n1 M1) (hx2 : RdR w a2 n2 M2) (hx3 : RdR w a3 n3 M3) (hx4 : RdR w a4 n4 M4) (hx5 : RdR w a5 n5 M5) (hc : code14 p st [M0, M1, M2, M3, M4, M5] ≠ 0) :
    Calls Try.prog 26 #[.agg #[.int .i64 p, .slice a d d], .agg #[.slice a0 n0 n0, .slice a1 n1 n1, .slice a2 n2 n2], .agg #[.slice a3 n3 n3, .slice a4 n4 n4, .slice a5 n5 n5]] w fun e w' => ∃ V, e = .returned (.tuple #[V, .int .i64 (code14 p st [M0, M1, M2, M3, M4, M5])]) ∧ Trip w.heap.size w' 0 [] [] [] V ∧ Ext w w' := by
  obtain ⟨O, hO⟩ : ∃ O, O = w.heap.size := ⟨_, rfl⟩
  obtain ⟨U0, hU0⟩ : ∃ W, W = w.alloc (.cells #[.int .i64 p, .slice a d d] 30) := ⟨_, rfl⟩
  obtain ⟨U1, hU1⟩ : ∃ W, W = U0.alloc (.cells #[.slice a0 n0 n0, .slice a1 n1 n1, .slice a2 n2 n2] 38) := ⟨_, rfl⟩
  obtain ⟨U2, hU2⟩ : ∃ W, W = U1.alloc (.cells #[.slice a3 n3 n3, .slice a4 n4 n4, .slice a5 n5 n5] 38) := ⟨_, rfl⟩
  obtain ⟨W, hW⟩ : ∃ W, W = U2.alloc (.cells #[.slice none 0 0, .slice none 0 0, .slice none 0 0] 38) := ⟨_, rfl⟩
  have z0 : U0.heap.size = O + 1 := by rw [hU0, hO]; simp
  have z1 : U1.heap.size = O + 1 + 1 := by rw [hU1]; simp; omega
  have z2 : U2.heap.size = O + 1 + 1 + 1 := by rw [hU2]; simp; omega
  have z3 : W.heap.size = O + 1 + 1 + 1 + 1 := by rw [hW]; simp; omega
  have x0 : Ext w U0 := by rw [hU0]; exact ext_alloc _ _
  have x1 : Ext U0 U1 := by rw [hU1]; exact ext_alloc _ _
  have x2 : Ext U1 U2 := by rw [hU2]; exact ext_alloc _ _
  have x3 : Ext U2 W := by rw [hW]; exact ext_alloc _ _
  have E := Lib.hid (((x0.trans x1).trans x2).trans x3)
  have C0 := Lib.hid (show W.cell? ⟨O, 0, none⟩ = some (.int .i64 p) from ((x1.trans x2).trans x3).cell (by rw [hU0, hO]; simp))
  have C1 := Lib.hid (show W.cell? ⟨O, 1, none⟩ = some (.slice a d d) from ((x1.trans x2).trans x3).cell (by rw [hU0, hO]; simp))
  have TX := Lib.hid (show TrAt W (O + 1) (.slice a0 n0 n0) (.slice a1 n1 n1) (.slice a2 n2 n2) by
    have h := trAt_new U0 (.slice a0 n0 n0) (.slice a1 n1 n1) (.slice a2 n2 n2) 38
    rw [← hU1, z0] at h
    exact h.ext (x2.trans x3))
  have TY := Lib.hid (show TrAt W (O + 1 + 1) (.slice a3 n3 n3) (.slice a4 n4 n4) (.slice a5 n5 n5) by
    have h := trAt_new U1 (.slice a3 n3 n3) (.slice a4 n4 n4) (.slice a5 n5 n5) 38
    rw [← hU2, z1] at h
    exact h.ext x3)
  have TR := Lib.hid (show TrAt W (O + 1 + 1 + 1) (.slice none 0 0) (.slice none 0 0) (.slice none 0 0) by
    have h := trAt_new U2 (.slice none 0 0) (.slice none 0 0) (.slice none 0 0) 38
    rw [← hW, z2] at h
    exact h)
  have HQ := Lib.hid (hq.ext E.out)
  have HX0 := Lib.hid (hx0.ext E.out)
  have HRL0 := Lib.hid hr0
  have HX1 := Lib.hid (hx1.ext E.out)
  have HRL1 := Lib.hid hr1
  have HX2 := Lib.hid (hx2.ext E.out)
  have HRL2 := Lib.hid hr2
  have HX3 := Lib.hid (hx3.ext E.out)
  have HRL3 := Lib.hid hr3
  have HX4 := Lib.hid (hx4.ext E.out)
  have HRL4 := Lib.hid hr4
  have HX5 := Lib.hid (hx5.ext E.out)
  have HRL5 := Lib.hid hr5
  have HU0 := Lib.hid hU0
  have HU1 := Lib.hid hU1
  have HU2 := Lib.hid hU2
  have HW := Lib.hid hW
  have HO := Lib.hid hO
  have HWZ := Lib.hid z3
  clear hq hx0 hr0 hx1 hr1 hx2 hr2 hx3 hr3 hx4 hr4 hx5 hr5 hU0 hU1 hU2 hW z0 z1 z2 z3 x0 x1 x2 x3 hO
  obtain ⟨K, hK⟩ : ∃ K, K = code14 p st [M0, M1, M2, M3, M4, M5] := ⟨_, rfl⟩
  have HK := Lib.hid hK
  rw [← hK] at hc ⊢
  have hkb : (K != 0) = true := by simp [hc]
  clear hK hc
  go_enter Try.func26, Try.ntmps26
  go_wp2_with (fail)
  rw [← HU0.out, ← HO.out]
  rw [← HU1.out]
  rw [← HU2.out]
  rw [← HW.out]
  obtain ⟨V, hV⟩ : ∃ z, z = W.alloc (.cells #[.slice a0 n0 n0, .slice a1 n1 n1, .slice a2 n2 n2, .slice a3 n3 n3, .slice a4 n4 n4, .slice a5 n5 n5] 38) := ⟨_, rfl⟩
  have gg : Ext W V := by rw [hV]; exact ext_alloc _ _
  have hzW : W.heap.size = O + 1 + 1 + 1 + 1 := HWZ.out
  have k0 : V.cell? ⟨O + 1 + 1 + 1 + 1, 0, none⟩ = some (.slice a0 n0 n0) := by rw [hV, ← hzW]; simp
  have k1 : V.cell? ⟨O + 1 + 1 + 1 + 1, 1, none⟩ = some (.slice a1 n1 n1) := by rw [hV, ← hzW]; simp
  have k2 : V.cell? ⟨O + 1 + 1 + 1 + 1, 2, none⟩ = some (.slice a2 n2 n2) := by rw [hV, ← hzW]; simp
  have k3 : V.cell? ⟨O + 1 + 1 + 1 + 1, 3, none⟩ = some (.slice a3 n3 n3) := by rw [hV, ← hzW]; simp
  have k4 : V.cell? ⟨O + 1 + 1 + 1 + 1, 4, none⟩ = some (.slice a4 n4 n4) := by rw [hV, ← hzW]; simp
  have k5 : V.cell? ⟨O + 1 + 1 + 1 + 1, 5, none⟩ = some (.slice a5 n5 n5) := by rw [hV, ← hzW]; simp
  rw [← hV]
  clear hV HW HU0 HU1 HU2 hzW
  replace E := Lib.hid (E.out.trans gg)
  replace HQ := Lib.hid (HQ.out.ext gg)
  replace TX := Lib.hid (TX.out.ext gg)
  replace TY := Lib.hid (TY.out.ext gg)
  replace TR := Lib.hid (TR.out.ext gg)
  replace HX0 := Lib.hid (HX0.out.ext gg)
  replace HX1 := Lib.hid (HX1.out.ext gg)
  replace HX2 := Lib.hid (HX2.out.ext gg)
  replace HX3 := Lib.hid (HX3.out.ext gg)
  replace HX4 := Lib.hid (HX4.out.ext gg)
  replace HX5 := Lib.hid (HX5.out.ext gg)
  replace C0 := Lib.hid (gg.cell (p := ⟨O, 0, none⟩) C0.out)
  replace C1 := Lib.hid (gg.cell (p := ⟨O, 1, none⟩) C1.out)
  clear gg
  refine Calls.mono (s_code15 p a d d st (O + 1 + 1 + 1 + 1) 2 a0 n0 n0 M0 a1 n1 n1 M1 a2 n2 n2 M2 a3 n3 n3 M3 a4 n4 n4 M4 a5 n5 n5 M5 V (by omega) hn0 HRL0.out hn1 HRL1.out hn2 HRL2.out hn3 HRL3.out hn4 HRL4.out hn5 HRL5.out HQ.out HX0.out HX1.out HX2.out HX3.out HX4.out HX5.out k0 k1 k2 k3 k4 k5) ?_
  rintro e v1 ⟨rfl, gg⟩
  replace E := Lib.hid (E.out.trans gg)
  replace HQ := Lib.hid (HQ.out.ext gg)
  replace TX := Lib.hid (TX.out.ext gg)
  replace TY := Lib.hid (TY.out.ext gg)
  replace TR := Lib.hid (TR.out.ext gg)
  replace HX0 := Lib.hid (HX0.out.ext gg)
  replace HX1 := Lib.hid (HX1.out.ext gg)
  replace HX2 := Lib.hid (HX2.out.ext gg)
  replace HX3 := Lib.hid (HX3.out.ext gg)
  replace HX4 := Lib.hid (HX4.out.ext gg)
  replace HX5 := Lib.hid (HX5.out.ext gg)
  replace C0 := Lib.hid (gg.cell (p := ⟨O, 0, none⟩) C0.out)
  replace C1 := Lib.hid (gg.cell (p := ⟨O, 1, none⟩) C1.out)
  clear gg
  clear k0 HRL0 k1 HRL1 k2 HRL2 k3 HRL3 k4 HRL4 k5 HRL5
  rw [← HK.out]
  have r0 := TR.out.c0
  have r1 := TR.out.c1
  have r2 := TR.out.c2
  have f0 := TR.out.f0
  have f1 := TR.out.f1
  have f2 := TR.out.f2
  have HOL := Lib.hid (show w.heap.size ≤ O + 1 + 1 + 1 by have := HO.out; omega)
  have x00 := C0.out
  have x01 := C1.out
  go_wp2_with (fail)
  clear x00 x01
  refine bodyPost_ret (v := .tuple #[.agg #[.slice none 0 0, .slice none 0 0, .slice none 0 0], .int .i64 K]) (by simp [results, Try.results26, go_sem, r0, r1, r2]) rfl ⟨_, rfl, ⟨none, 0, none, 0, none, 0, w.heap.size, w.heap.size, w.heap.size, w.heap.size, w.heap.size, w.heap.size, rfl, Nat.le_refl _, Nat.le_refl _, Nat.le_refl _, Nat.le_refl _, Nat.le_refl _, Nat.le_refl _, (WroteIn.set3.ext E.out HOL.out).size, OwnRH.nil _ _ _, OwnRH.nil _ _ _, OwnRH.nil _ _ _⟩, WroteIn.set3.ext E.out HOL.out⟩
set_option maxHeartbeats 16000000 in
set_option maxRecDepth 100000 in
theorem s_BracketTriple_ok (p : Int) (a : Option Addr) (d : Nat) (st : List Int) (a0 : Option Addr) (n0 : Nat) (M0 : List (List Int)) (a1 : Option Addr) (n1 : Nat) (M1 : List (List Int)) (a2 : Option Addr) (n2 : Nat) (M2 : List (List Int)) (a3 : Option Addr) (n3 : Nat) (M3 : List (List Int)) (a4 : Option Addr) (n4 : Nat) (M4 : List (List Int)) (a5 : Option Addr) (n5 : Nat) (M5 : List (List Int)) (w : World) (hd : d ≤ 4194303) (hn0 : n0 ≤ 4194303) (hr0 : ∀ i, i < n0 → (nthR M0 i).length ≤ 4194303) (hn1 : n1 ≤ 4194303) (hr1 : ∀ i, i < n1 → (nthR M1 i).length ≤ 4194303) (hn2 : n2 ≤ 4194303) (hr2 : ∀ i, i < n2 → (nthR M2 i).length ≤ 4194303) (hn3 : n3 ≤ 4194303) (hr3 : ∀ i, i < n3 → (nthR M3 i).length ≤ 4194303) (hn4 : n4 ≤ 4194303) (hr4 : ∀ i, i < n4 → (nthR M4 i).length ≤ 4194303) (hn5 : n5 ≤ 4194303) (hr5 : ∀ i, i < n5 → (nthR M5 i).length ≤ 4194303) (hq : RdC w a d st) (hx0 : RdR w a0 n0 M0) (hx1 : RdR w a1 n1 M1) (hx2 : RdR w a2 n2 M2) (hx3 : RdR w a3 n3 M3) (hx4 : RdR w a4 n4 M4) (hx5 : RdR w a5 n5 M5) (hc : code14 p st [M0, M1, M2, M3, M4, M5] = 0) :
    Calls Try.prog 26 #[.agg #[.int .i64 p, .slice a d d], .agg #[.slice a0 n0 n0, .slice a1 n1 n1, .slice a2 n2 n2], .agg #[.slice a3 n3 n3, .slice a4 n4 n4, .slice a5 n5 n5]] w fun e w' => ∃ V, e = .returned (.tuple #[V, .int .i64 0]) ∧ Trip w.heap.size w' (2 ^ d) (brkM p M0 M3 (2 ^ d)) (brkM p M1 M4 (2 ^ d)) (brkM p M2 M5 (2 ^ d)) V ∧ Ext w w' := by
  obtain ⟨O, hO⟩ : ∃ O, O = w.heap.size := ⟨_, rfl⟩
  obtain ⟨U0, hU0⟩ : ∃ W, W = w.alloc (.cells #[.int .i64 p, .slice a d d] 30) := ⟨_, rfl⟩
  obtain ⟨U1, hU1⟩ : ∃ W, W = U0.alloc (.cells #[.slice a0 n0 n0, .slice a1 n1 n1, .slice a2 n2 n2] 38) := ⟨_, rfl⟩
  obtain ⟨U2, hU2⟩ : ∃ W, W = U1.alloc (.cells #[.slice a3 n3 n3, .slice a4 n4 n4, .slice a5 n5 n5] 38) := ⟨_, rfl⟩
  obtain ⟨W, hW⟩ : ∃ W, W = U2.alloc (.cells #[.slice none 0 0, .slice none 0 0, .slice none 0 0] 38) := ⟨_, rfl⟩
  have z0 : U0.heap.size = O + 1 := by rw [hU0, hO]; simp
  have z1 : U1.heap.size = O + 1 + 1 := by rw [hU1]; simp; omega
  have z2 : U2.heap.size = O + 1 + 1 + 1 := by rw [hU2]; simp; omega
  have z3 : W.heap.size = O + 1 + 1 + 1 + 1 := by rw [hW]; simp; omega
  have x0 : Ext w U0 := by rw [hU0]; exact ext_alloc _ _
  have x1 : Ext U0 U1 := by rw [hU1]; exact ext_alloc _ _
  have x2 : Ext U1 U2 := by rw [hU2]; exact ext_alloc _ _
  have x3 : Ext U2 W := by rw [hW]; exact ext_alloc _ _
  have E := Lib.hid (((x0.trans x1).trans x2).trans x3)
  have C0 := Lib.hid (show W.cell? ⟨O, 0, none⟩ = some (.int .i64 p) from ((x1.trans x2).trans x3).cell (by rw [hU0, hO]; simp))
  have C1 := Lib.hid (show W.cell? ⟨O, 1, none⟩ = some (.slice a d d) from ((x1.trans x2).trans x3).cell (by rw [hU0, hO]; simp))
  have TX := Lib.hid (show TrAt W (O + 1) (.slice a0 n0 n0) (.slice a1 n1 n1) (.slice a2 n2 n2) by
    have h := trAt_new U0 (.slice a0 n0 n0) (.slice a1 n1 n1) (.slice a2 n2 n2) 38
    rw [← hU1, z0] at h
    exact h.ext (x2.trans x3))
  have TY := Lib.hid (show TrAt W (O + 1 + 1) (.slice a3 n3 n3) (.slice a4 n4 n4) (.slice a5 n5 n5) by
    have h := trAt_new U1 (.slice a3 n3 n3) (.slice a4 n4 n4) (.slice a5 n5 n5) 38
    rw [← hU2, z1] at h
    exact h.ext x3)
  have TR := Lib.hid (show TrAt W (O + 1 + 1 + 1) (.slice none 0 0) (.slice none 0 0) (.slice none 0 0) by
    have h := trAt_new U2 (.slice none 0 0) (.slice none 0 0) (.slice none 0 0) 38
    rw [← hW, z2] at h
    exact h)
  have HQ := Lib.hid (hq.ext E.out)
  have HX0 := Lib.hid (hx0.ext E.out)
  have HRL0 := Lib.hid hr0
  have HX1 := Lib.hid (hx1.ext E.out)
  have HRL1 := Lib.hid hr1
  have HX2 := Lib.hid (hx2.ext E.out)
  have HRL2 := Lib.hid hr2
  have HX3 := Lib.hid (hx3.ext E.out)
  have HRL3 := Lib.hid hr3
  have HX4 := Lib.hid (hx4.ext E.out)
  have HRL4 := Lib.hid hr4
  have HX5 := Lib.hid (hx5.ext E.out)
  have HRL5 := Lib.hid hr5
  have HU0 := Lib.hid hU0
  have HU1 := Lib.hid hU1
  have HU2 := Lib.hid hU2
  have HW := Lib.hid hW
  have HO := Lib.hid hO
  have HWZ := Lib.hid z3
  clear hq hx0 hr0 hx1 hr1 hx2 hr2 hx3 hr3 hx4 hr4 hx5 hr5 hU0 hU1 hU2 hW z0 z1 z2 z3 x0 x1 x2 x3 hO
  have HK := Lib.hid hc
  obtain ⟨hD, e0, e1, e2, e3, e4, e5⟩ := code15_zero hc
  obtain ⟨hdb, hd3⟩ := codeD_zero hD
  have hpb := prime_bd (doub_of hdb).1
  have hsl : st.length = d := HQ.out.1
  rw [hsl] at hd3 e0 e1 e2 e3 e4 e5
  obtain ⟨N, hN⟩ : ∃ N, N = 2 ^ d := ⟨_, rfl⟩
  have hN6 : N ≤ 64 := by rw [hN]; exact pow_le64 (by omega)
  have hN0 : 0 < N := by rw [hN]; exact pow_pos' d
  have G0 := Lib.hid (show RowsG p N M0 by rw [hN]; exact (matE_of e0).1)
  have l0 : n0 = N := by rw [hN]; exact HX0.out.1.symm.trans (matE_of e0).2
  have G1 := Lib.hid (show RowsG p N M1 by rw [hN]; exact (matE_of e1).1)
  have l1 : n1 = N := by rw [hN]; exact HX1.out.1.symm.trans (matE_of e1).2
  have G2 := Lib.hid (show RowsG p N M2 by rw [hN]; exact (matE_of e2).1)
  have l2 : n2 = N := by rw [hN]; exact HX2.out.1.symm.trans (matE_of e2).2
  have G3 := Lib.hid (show RowsG p N M3 by rw [hN]; exact (matE_of e3).1)
  have l3 : n3 = N := by rw [hN]; exact HX3.out.1.symm.trans (matE_of e3).2
  have G4 := Lib.hid (show RowsG p N M4 by rw [hN]; exact (matE_of e4).1)
  have l4 : n4 = N := by rw [hN]; exact HX4.out.1.symm.trans (matE_of e4).2
  have G5 := Lib.hid (show RowsG p N M5 by rw [hN]; exact (matE_of e5).1)
  have l5 : n5 = N := by rw [hN]; exact HX5.out.1.symm.trans (matE_of e5).2
  rw [← hN]
  clear hc hD hdb hsl hN e0 e1 e2 e3 e4 e5
  subst l0
  obtain rfl : n0 = n1 := l1.symm
  obtain rfl : n0 = n2 := l2.symm
  obtain rfl : n0 = n3 := l3.symm
  obtain rfl : n0 = n4 := l4.symm
  obtain rfl : n0 = n5 := l5.symm
  go_enter Try.func26, Try.ntmps26
  go_wp2_with (fail)
  rw [← HU0.out, ← HO.out]
  rw [← HU1.out]
  rw [← HU2.out]
  rw [← HW.out]
  obtain ⟨V, hV⟩ : ∃ z, z = W.alloc (.cells #[.slice a0 n0 n0, .slice a1 n0 n0, .slice a2 n0 n0, .slice a3 n0 n0, .slice a4 n0 n0, .slice a5 n0 n0] 38) := ⟨_, rfl⟩
  have gg : Ext W V := by rw [hV]; exact ext_alloc _ _
  have hzW : W.heap.size = O + 1 + 1 + 1 + 1 := HWZ.out
  have k0 : V.cell? ⟨O + 1 + 1 + 1 + 1, 0, none⟩ = some (.slice a0 n0 n0) := by rw [hV, ← hzW]; simp
  have k1 : V.cell? ⟨O + 1 + 1 + 1 + 1, 1, none⟩ = some (.slice a1 n0 n0) := by rw [hV, ← hzW]; simp
  have k2 : V.cell? ⟨O + 1 + 1 + 1 + 1, 2, none⟩ = some (.slice a2 n0 n0) := by rw [hV, ← hzW]; simp
  have k3 : V.cell? ⟨O + 1 + 1 + 1 + 1, 3, none⟩ = some (.slice a3 n0 n0) := by rw [hV, ← hzW]; simp
  have k4 : V.cell? ⟨O + 1 + 1 + 1 + 1, 4, none⟩ = some (.slice a4 n0 n0) := by rw [hV, ← hzW]; simp
  have k5 : V.cell? ⟨O + 1 + 1 + 1 + 1, 5, none⟩ = some (.slice a5 n0 n0) := by rw [hV, ← hzW]; simp
  rw [← hV]
  clear hV HW HU0 HU1 HU2 hzW
  replace E := Lib.hid (E.out.trans gg)
  replace HQ := Lib.hid (HQ.out.ext gg)
  replace TX := Lib.hid (TX.out.ext gg)
  replace TY := Lib.hid (TY.out.ext gg)
  replace TR := Lib.hid (TR.out.ext gg)
  replace HX0 := Lib.hid (HX0.out.ext gg)
  replace HX1 := Lib.hid (HX1.out.ext gg)
  replace HX2 := Lib.hid (HX2.out.ext gg)
  replace HX3 := Lib.hid (HX3.out.ext gg)
  replace HX4 := Lib.hid (HX4.out.ext gg)
  replace HX5 := Lib.hid (HX5.out.ext gg)
  replace C0 := Lib.hid (gg.cell (p := ⟨O, 0, none⟩) C0.out)
  replace C1 := Lib.hid (gg.cell (p := ⟨O, 1, none⟩) C1.out)
  clear gg
  refine Calls.mono (s_code15 p a d d st (O + 1 + 1 + 1 + 1) 2 a0 n0 n0 M0 a1 n0 n0 M1 a2 n0 n0 M2 a3 n0 n0 M3 a4 n0 n0 M4 a5 n0 n0 M5 V (by omega) hn0 HRL0.out hn1 HRL1.out hn2 HRL2.out hn3 HRL3.out hn4 HRL4.out hn5 HRL5.out HQ.out HX0.out HX1.out HX2.out HX3.out HX4.out HX5.out k0 k1 k2 k3 k4 k5) ?_
  rintro e v1 ⟨rfl, gg⟩
  replace E := Lib.hid (E.out.trans gg)
  replace HQ := Lib.hid (HQ.out.ext gg)
  replace TX := Lib.hid (TX.out.ext gg)
  replace TY := Lib.hid (TY.out.ext gg)
  replace TR := Lib.hid (TR.out.ext gg)
  replace HX0 := Lib.hid (HX0.out.ext gg)
  replace HX1 := Lib.hid (HX1.out.ext gg)
  replace HX2 := Lib.hid (HX2.out.ext gg)
  replace HX3 := Lib.hid (HX3.out.ext gg)
  replace HX4 := Lib.hid (HX4.out.ext gg)
  replace HX5 := Lib.hid (HX5.out.ext gg)
  replace C0 := Lib.hid (gg.cell (p := ⟨O, 0, none⟩) C0.out)
  replace C1 := Lib.hid (gg.cell (p := ⟨O, 1, none⟩) C1.out)
  clear gg
  clear k0 HRL0 k1 HRL1 k2 HRL2 k3 HRL3 k4 HRL4 k5 HRL5
  rw [HK.out]
  have x00 := C0.out
  have x01 := C1.out
  go_wp2_with (fail)
  clear x00 x01
  obtain ⟨v0, hv0⟩ : ∃ z, z = v1.drew := ⟨_, rfl⟩
  have HV0 := Lib.hid hv0
  have gg : Ext v1 v0 := by rw [hv0]; exact ext_drew _
  clear hv0
  replace E := Lib.hid (E.out.trans gg)
  replace HQ := Lib.hid (HQ.out.ext gg)
  replace TX := Lib.hid (TX.out.ext gg)
  replace TY := Lib.hid (TY.out.ext gg)
  replace TR := Lib.hid (TR.out.ext gg)
  replace HX0 := Lib.hid (HX0.out.ext gg)
  replace HX1 := Lib.hid (HX1.out.ext gg)
  replace HX2 := Lib.hid (HX2.out.ext gg)
  replace HX3 := Lib.hid (HX3.out.ext gg)
  replace HX4 := Lib.hid (HX4.out.ext gg)
  replace HX5 := Lib.hid (HX5.out.ext gg)
  replace C0 := Lib.hid (gg.cell (p := ⟨O, 0, none⟩) C0.out)
  replace C1 := Lib.hid (gg.cell (p := ⟨O, 1, none⟩) C1.out)
  clear gg
  obtain ⟨J, hJ⟩ : ∃ J : World → Prop, J = (fun w' => w'.cell? ⟨O, 0, none⟩ = some (.int .i64 p) ∧ TrAt w' (O + 1) (.slice a0 n0 n0) (.slice a1 n0 n0) (.slice a2 n0 n0) ∧ TrAt w' (O + 1 + 1) (.slice a3 n0 n0) (.slice a4 n0 n0) (.slice a5 n0 n0)) := ⟨_, rfl⟩
  have HJ : Hid (∀ w', w'.cell? ⟨O, 0, none⟩ = some (.int .i64 p) → TrAt w' (O + 1) (.slice a0 n0 n0) (.slice a1 n0 n0) (.slice a2 n0 n0) → TrAt w' (O + 1 + 1) (.slice a3 n0 n0) (.slice a4 n0 n0) (.slice a5 n0 n0) → J w') := Lib.hid (fun w' h1 h2 h3 => by rw [hJ]; exact ⟨h1, h2, h3⟩)
  have HJ2 : Hid (∀ w', J w' → w'.cell? ⟨O, 0, none⟩ = some (.int .i64 p) ∧ TrAt w' (O + 1) (.slice a0 n0 n0) (.slice a1 n0 n0) (.slice a2 n0 n0) ∧ TrAt w' (O + 1 + 1) (.slice a3 n0 n0) (.slice a4 n0 n0) (.slice a5 n0 n0)) := Lib.hid (fun w' h => by rw [hJ] at h; exact h)
  clear hJ
  have X0 := Lib.hid (Ext.refl v0)
  have hlt9 := TR.out.lt
  refine wp_region_steps 24 J (by kernel_rfl) rfl ?_
  rw [← HV0.out]
  clear HV0
  refine stepsI_float (i := 0) (v := ?_) (some 18) (by kernel_rfl) rfl rfl rfl (fun w' hI => ?_) ?_
  rotate_left
  · go_simp; rfl
  simp only [Act.put, List.setIfInBounds_toArray, List.set_cons_zero, List.set_cons_succ]
  refine stepsI_float (i := 1) (v := ?_) (some 19) (by kernel_rfl) rfl rfl rfl (fun w' hI => ?_) ?_
  rotate_left
  · obtain ⟨e0, t1, t2⟩ := HJ2.out w' hI; have q0 := t1.c0; have q1 := t1.c1; have q2 := t1.c2; have q3 := t2.c0; have q4 := t2.c1; have q5 := t2.c2; clear t1 t2; go_simp; rfl
  simp only [Act.put, List.setIfInBounds_toArray, List.set_cons_zero, List.set_cons_succ]
  refine stepsI_float (i := 2) (v := ?_) (some 20) (by kernel_rfl) rfl rfl rfl (fun w' hI => ?_) ?_
  rotate_left
  · go_simp; rfl
  simp only [Act.put, List.setIfInBounds_toArray, List.set_cons_zero, List.set_cons_succ]
  refine stepsI_float (i := 3) (v := ?_) (some 21) (by kernel_rfl) rfl rfl rfl (fun w' hI => ?_) ?_
  rotate_left
  · obtain ⟨e0, t1, t2⟩ := HJ2.out w' hI; have q0 := t1.c0; have q1 := t1.c1; have q2 := t1.c2; have q3 := t2.c0; have q4 := t2.c1; have q5 := t2.c2; clear t1 t2; go_simp; rfl
  simp only [Act.put, List.setIfInBounds_toArray, List.set_cons_zero, List.set_cons_succ]
  refine stepsI_float (i := 4) (v := ?_) (some 22) (by kernel_rfl) rfl rfl rfl (fun w' hI => ?_) ?_
  rotate_left
  · go_simp; rfl
  simp only [Act.put, List.setIfInBounds_toArray, List.set_cons_zero, List.set_cons_succ]
  refine stepsI_float (i := 5) (v := ?_) (some 23) (by kernel_rfl) rfl rfl rfl (fun w' hI => ?_) ?_
  rotate_left
  · obtain ⟨e0, t1, t2⟩ := HJ2.out w' hI; have q0 := t1.c0; have q1 := t1.c1; have q2 := t1.c2; have q3 := t2.c0; have q4 := t2.c1; have q5 := t2.c2; clear t1 t2; go_simp; rfl
  simp only [Act.put, List.setIfInBounds_toArray, List.set_cons_zero, List.set_cons_succ]
  refine stepsI_float (i := 7) (v := ?_) (some 25) (by kernel_rfl) rfl rfl rfl (fun w' hI => ?_) ?_
  rotate_left
  · go_simp; rfl
  simp only [Act.put, List.setIfInBounds_toArray, List.set_cons_zero, List.set_cons_succ]
  refine stepsI_float (i := 8) (v := ?_) (some 26) (by kernel_rfl) rfl rfl rfl (fun w' hI => ?_) ?_
  rotate_left
  · obtain ⟨e0, t1, t2⟩ := HJ2.out w' hI; have q0 := t1.c0; have q1 := t1.c1; have q2 := t1.c2; have q3 := t2.c0; have q4 := t2.c1; have q5 := t2.c2; clear t1 t2; go_simp; rfl
  simp only [Act.put, List.setIfInBounds_toArray, List.set_cons_zero, List.set_cons_succ]
  refine stepsI_float (i := 9) (v := ?_) (some 27) (by kernel_rfl) rfl rfl rfl (fun w' hI => ?_) ?_
  rotate_left
  · go_simp; rfl
  simp only [Act.put, List.setIfInBounds_toArray, List.set_cons_zero, List.set_cons_succ]
  refine stepsI_float (i := 10) (v := ?_) (some 28) (by kernel_rfl) rfl rfl rfl (fun w' hI => ?_) ?_
  rotate_left
  · obtain ⟨e0, t1, t2⟩ := HJ2.out w' hI; have q0 := t1.c0; have q1 := t1.c1; have q2 := t1.c2; have q3 := t2.c0; have q4 := t2.c1; have q5 := t2.c2; clear t1 t2; go_simp; rfl
  simp only [Act.put, List.setIfInBounds_toArray, List.set_cons_zero, List.set_cons_succ]
  refine stepsI_float (i := 11) (v := ?_) (some 29) (by kernel_rfl) rfl rfl rfl (fun w' hI => ?_) ?_
  rotate_left
  · go_simp; rfl
  simp only [Act.put, List.setIfInBounds_toArray, List.set_cons_zero, List.set_cons_succ]
  refine stepsI_float (i := 12) (v := ?_) (some 30) (by kernel_rfl) rfl rfl rfl (fun w' hI => ?_) ?_
  rotate_left
  · obtain ⟨e0, t1, t2⟩ := HJ2.out w' hI; have q0 := t1.c0; have q1 := t1.c1; have q2 := t1.c2; have q3 := t2.c0; have q4 := t2.c1; have q5 := t2.c2; clear t1 t2; go_simp; rfl
  simp only [Act.put, List.setIfInBounds_toArray, List.set_cons_zero, List.set_cons_succ]
  refine stepsI_float (i := 14) (v := ?_) (some 32) (by kernel_rfl) rfl rfl rfl (fun w' hI => ?_) ?_
  rotate_left
  · go_simp; rfl
  simp only [Act.put, List.setIfInBounds_toArray, List.set_cons_zero, List.set_cons_succ]
  refine stepsI_float (i := 15) (v := ?_) (some 33) (by kernel_rfl) rfl rfl rfl (fun w' hI => ?_) ?_
  rotate_left
  · obtain ⟨e0, t1, t2⟩ := HJ2.out w' hI; have q0 := t1.c0; have q1 := t1.c1; have q2 := t1.c2; have q3 := t2.c0; have q4 := t2.c1; have q5 := t2.c2; clear t1 t2; go_simp; rfl
  simp only [Act.put, List.setIfInBounds_toArray, List.set_cons_zero, List.set_cons_succ]
  refine stepsI_float (i := 16) (v := ?_) (some 34) (by kernel_rfl) rfl rfl rfl (fun w' hI => ?_) ?_
  rotate_left
  · go_simp; rfl
  simp only [Act.put, List.setIfInBounds_toArray, List.set_cons_zero, List.set_cons_succ]
  refine stepsI_float (i := 17) (v := ?_) (some 35) (by kernel_rfl) rfl rfl rfl (fun w' hI => ?_) ?_
  rotate_left
  · obtain ⟨e0, t1, t2⟩ := HJ2.out w' hI; have q0 := t1.c0; have q1 := t1.c1; have q2 := t1.c2; have q3 := t2.c0; have q4 := t2.c1; have q5 := t2.c2; clear t1 t2; go_simp; rfl
  simp only [Act.put, List.setIfInBounds_toArray, List.set_cons_zero, List.set_cons_succ]
  refine stepsI_float (i := 18) (v := ?_) (some 36) (by kernel_rfl) rfl rfl rfl (fun w' hI => ?_) ?_
  rotate_left
  · go_simp; rfl
  simp only [Act.put, List.setIfInBounds_toArray, List.set_cons_zero, List.set_cons_succ]
  refine stepsI_float (i := 19) (v := ?_) (some 37) (by kernel_rfl) rfl rfl rfl (fun w' hI => ?_) ?_
  rotate_left
  · obtain ⟨e0, t1, t2⟩ := HJ2.out w' hI; have q0 := t1.c0; have q1 := t1.c1; have q2 := t1.c2; have q3 := t2.c0; have q4 := t2.c1; have q5 := t2.c2; clear t1 t2; go_simp; rfl
  simp only [Act.put, List.setIfInBounds_toArray, List.set_cons_zero, List.set_cons_succ]
  refine stepsI_one (i := 6) (HJ.out _ (X0.out.cell C0.out) (TX.out.ext X0.out) (TY.out.ext X0.out)) (by kernel_rfl) ?_
  refine op_call (f := ?_) (args := ?_) (R := fun v w' => ∃ g c, v = .slice (some ⟨g, 0, none⟩) n0 c ∧ OwnR v0.heap.size w' (some ⟨g, 0, none⟩) n0 c (brkM p M0 M3 n0) ∧ Ext v0 w') (some 24) rfl rfl rfl ?_ ?_ ?_
  rotate_left 2
  · go_simp; refine ⟨?_, ?_⟩ <;> rfl
  · refine Calls.mono (s_bracket p a0 n0 n0 M0 a3 n0 M3 v0 (by omega) (by omega) hN0 hN6 (HX0.out.ext X0.out) (HX3.out.ext X0.out) G0.out G3.out) ?_
    rintro e w9 ⟨g9, c9, rfl, ho9, g9'⟩
    exact ⟨_, rfl, g9, c9, rfl, ho9, g9'⟩
  rintro v u1 ⟨gR0, cR0, rfl, ho9, gg⟩
  simp only [Act.put, List.setIfInBounds_toArray, List.set_cons_zero, List.set_cons_succ]
  have X1 := Lib.hid (X0.out.trans gg)
  have OR0 := Lib.hid ho9.high
  have hl0 := gg.size'
  obtain ⟨hi0, hhi0⟩ : ∃ z, z = u1.heap.size := ⟨_, rfl⟩
  obtain ⟨lo0, hlo0⟩ : ∃ z, z = v0.heap.size := ⟨_, rfl⟩
  have hlt0 : O + 1 + 1 + 1 < lo0 := by rw [hlo0]; exact hlt9
  rw [← hlo0, ← hhi0] at OR0 hl0
  have HHI0 := Lib.hid hhi0
  clear ho9 gg hlo0 hhi0
  refine stepsI_one (i := 13) (HJ.out _ (X1.out.cell C0.out) (TX.out.ext X1.out) (TY.out.ext X1.out)) (by kernel_rfl) ?_
  refine op_call (f := ?_) (args := ?_) (R := fun v w' => ∃ g c, v = .slice (some ⟨g, 0, none⟩) n0 c ∧ OwnR u1.heap.size w' (some ⟨g, 0, none⟩) n0 c (brkM p M1 M4 n0) ∧ Ext u1 w') (some 31) rfl rfl rfl ?_ ?_ ?_
  rotate_left 2
  · go_simp; refine ⟨?_, ?_⟩ <;> rfl
  · refine Calls.mono (s_bracket p a1 n0 n0 M1 a4 n0 M4 u1 (by omega) (by omega) hN0 hN6 (HX1.out.ext X1.out) (HX4.out.ext X1.out) G1.out G4.out) ?_
    rintro e w9 ⟨g9, c9, rfl, ho9, g9'⟩
    exact ⟨_, rfl, g9, c9, rfl, ho9, g9'⟩
  rintro v u2 ⟨gR1, cR1, rfl, ho9, gg⟩
  simp only [Act.put, List.setIfInBounds_toArray, List.set_cons_zero, List.set_cons_succ]
  replace OR0 := Lib.hid (OR0.out.ext gg)
  have X2 := Lib.hid (X1.out.trans gg)
  have OR1 := Lib.hid ho9.high
  have hl1 := gg.size'
  obtain ⟨hi1, hhi1⟩ : ∃ z, z = u2.heap.size := ⟨_, rfl⟩
  obtain ⟨lo1, hlo1⟩ : ∃ z, z = u1.heap.size := ⟨_, rfl⟩
  have hll1 : hi0 ≤ lo1 := by rw [hlo1, HHI0.out]; exact Nat.le_refl _
  rw [← hlo1, ← hhi1] at OR1 hl1
  have HHI1 := Lib.hid hhi1
  clear ho9 gg hlo1 hhi1
  refine stepsI_one (i := 20) (HJ.out _ (X2.out.cell C0.out) (TX.out.ext X2.out) (TY.out.ext X2.out)) (by kernel_rfl) ?_
  refine op_call (f := ?_) (args := ?_) (R := fun v w' => ∃ g c, v = .slice (some ⟨g, 0, none⟩) n0 c ∧ OwnR u2.heap.size w' (some ⟨g, 0, none⟩) n0 c (brkM p M2 M5 n0) ∧ Ext u2 w') (some 38) rfl rfl rfl ?_ ?_ ?_
  rotate_left 2
  · go_simp; refine ⟨?_, ?_⟩ <;> rfl
  · refine Calls.mono (s_bracket p a2 n0 n0 M2 a5 n0 M5 u2 (by omega) (by omega) hN0 hN6 (HX2.out.ext X2.out) (HX5.out.ext X2.out) G2.out G5.out) ?_
    rintro e w9 ⟨g9, c9, rfl, ho9, g9'⟩
    exact ⟨_, rfl, g9, c9, rfl, ho9, g9'⟩
  rintro v u3 ⟨gR2, cR2, rfl, ho9, gg⟩
  simp only [Act.put, List.setIfInBounds_toArray, List.set_cons_zero, List.set_cons_succ]
  replace OR0 := Lib.hid (OR0.out.ext gg)
  replace OR1 := Lib.hid (OR1.out.ext gg)
  have X3 := Lib.hid (X2.out.trans gg)
  have OR2 := Lib.hid ho9.high
  have hl2 := gg.size'
  obtain ⟨hi2, hhi2⟩ : ∃ z, z = u3.heap.size := ⟨_, rfl⟩
  obtain ⟨lo2, hlo2⟩ : ∃ z, z = u2.heap.size := ⟨_, rfl⟩
  have hll2 : hi1 ≤ lo2 := by rw [hlo2, HHI1.out]; exact Nat.le_refl _
  rw [← hlo2, ← hhi2] at OR2 hl2
  have HHI2 := Lib.hid hhi2
  clear ho9 gg hlo2 hhi2
  refine stepsI_float (i := 21) (v := ?_) (some 39) (by kernel_rfl) rfl rfl rfl (fun w' hI => ?_) ?_
  rotate_left
  · go_simp; rfl
  simp only [Act.put, List.setIfInBounds_toArray, List.set_cons_zero, List.set_cons_succ]
  refine stepsI_one (i := 22) (HJ.out _ (X3.out.cell C0.out) (TX.out.ext X3.out) (TY.out.ext X3.out)) (by kernel_rfl) ?_
  have TR9 := Lib.hid (TR.out.ext X3.out)
  have q0 := TR9.out.c0
  have q1 := TR9.out.c1
  have q2 := TR9.out.c2
  have q3 := TR9.out.f0
  have q4 := TR9.out.f1
  have q5 := TR9.out.f2
  obtain ⟨y, hy⟩ : ∃ z, z = (((u3.setCell ⟨O + 1 + 1 + 1, 0, none⟩ (.slice (some ⟨gR0, 0, none⟩) n0 cR0)).setCell ⟨O + 1 + 1 + 1, 1, none⟩ (.slice (some ⟨gR1, 0, none⟩) n0 cR1)).setCell ⟨O + 1 + 1 + 1, 2, none⟩ (.slice (some ⟨gR2, 0, none⟩) n0 cR2)) := ⟨_, rfl⟩
  refine op_skip (w' := y) rfl rfl (by rw [hy]; go_simp) ?_
  simp only [Act.put]
  clear q0 q1 q2 q3 q4 q5
  have WW : WroteIn (O + 1 + 1 + 1) (O + 1 + 1 + 1 + 1) u3 y := by rw [hy]; exact WroteIn.set3
  have TZ := Lib.hid (show TrAt y (O + 1 + 1 + 1) (.slice (some ⟨gR0, 0, none⟩) n0 cR0) (.slice (some ⟨gR1, 0, none⟩) n0 cR1) (.slice (some ⟨gR2, 0, none⟩) n0 cR2) by rw [hy]; exact TR9.out.set3)
  have D0 := Lib.hid (WW.cell (X3.out.cell C0.out) (.inl (by show O < _; omega)))
  have DX := Lib.hid ((TX.out.ext X3.out).wrote WW (.inl (by omega)))
  have DY := Lib.hid ((TY.out.ext X3.out).wrote WW (.inl (by omega)))
  have hHI : hi2 ≤ y.heap.size := by rw [HHI2.out]; exact WW.size
  have E9 := Lib.hid (WW.ext (E.out.trans X3.out) (by have := HO.out; omega))
  replace OR0 := Lib.hid (WW.ownR OR0.out (.inr (by omega)))
  replace OR1 := Lib.hid (WW.ownR OR1.out (.inr (by omega)))
  replace OR2 := Lib.hid (WW.ownR OR2.out (.inr (by omega)))
  clear hy WW
  refine stepsI_one (i := 23) (HJ.out _ D0.out DX.out DY.out) (by kernel_rfl) ?_
  refine op_value (v := ?_) (w' := y) (some 7) rfl rfl rfl ?_ ?_
  rotate_left
  · go_simp; rfl
  simp only [Act.put, List.setIfInBounds_toArray]
  refine stepsI_end (HJ.out _ D0.out DX.out DY.out) (by kernel_rfl) ?_
  have r0 := TZ.out.c0
  have r1 := TZ.out.c1
  have r2 := TZ.out.c2
  go_wp2_with (fail)
  refine bodyPost_ret (v := .tuple #[.agg #[.slice (some ⟨gR0, 0, none⟩) n0 cR0, .slice (some ⟨gR1, 0, none⟩) n0 cR1, .slice (some ⟨gR2, 0, none⟩) n0 cR2], .int .i64 0]) (by simp [results, Try.results26, go_sem, r0, r1, r2]) rfl ⟨_, rfl, ⟨_, _, _, _, _, _, lo0, hi0, lo1, hi1, lo2, hi2, rfl, (by have := HO.out; omega), hl0, hll1, hl1, hll2, hl2, hHI, OR0.out, OR1.out, OR2.out⟩, E9.out⟩
end Go.Proofs.Ythflmmgolegonaa

/-
  What is known of the arguments of a law in memory, read off the form's own words.
  No condition.
-/
namespace Go.Proofs.Ythflmmgolegonaa
set_option maxRecDepth 100000
open Go.ChangeShapes Go.WideShapes Go.ChangeAt Go.RowKit Go.Joins

theorem own : ownKnob Try.prog.godebug = none := by kernel_rfl
theorem laidOut : laidOutB Try.prog = true := by kernel_rfl
theorem Try.cellsI : Try.prog.cellsOf 2 = 1 := by kernel_rfl
theorem Try.cellsR : Try.prog.cellsOf 22 = 1 := by kernel_rfl

theorem add_cell {w : World} {x : Addr} {i : Nat} {v v0 : Value} (h0 : w.cell? (x.add 0) = some v0) (h : w.cell? (x.add i) = some v) : ∃ b off, some x = some (⟨b, off, none⟩ : Addr) ∧ w.cell? ⟨b, off + i, none⟩ = some v := by
  obtain ⟨b, off, spot⟩ := x
  cases spot with
  | none =>
    refine ⟨b, off, rfl, ?_⟩
    unfold Addr.add at h
    split at h
    · rename_i hi; subst hi; exact h
    · exact h
  | some s =>
    simp only [World.cell?, Addr.add, if_true] at h0
    split at h0
    · simp at h0
    · cases h0

theorem read_cells {H : Type} {enc : TypeId × Value → H} {W : World} {fuel : Nat} {v : Value} {x : DataW H × List MemPlace}
    (hf : DataW.trod enc Try.prog W 0 (fun _ => true) true fuel 22 [v] = some x) : ∃ a n cap xs, v = .slice a n cap ∧ RdC W a n xs ∧ n ≤ maxLen := by
  rcases open_ints Try.underlying22 Try.underlying2 Try.cellsI hf with ⟨hcs, _⟩ | ⟨y, l, c, zs, hcs, _, hl, hm, hz, _, hcell, hwz⟩
  · simp only [List.cons.injEq, and_true] at hcs
    exact ⟨none, 0, 0, [], hcs, ⟨rfl, fun i hi => by omega⟩, by omega⟩
  · simp only [List.cons.injEq, and_true] at hcs
    have hz' : zs.length = c := by simpa using hz
    refine ⟨some y, l, c, zs.take l, hcs, ⟨by simp; omega, fun i hi => ?_⟩, by omega⟩
    obtain ⟨b, off, h1, h2⟩ := add_cell (hcell 0 (by omega)) (hcell i (by omega))
    refine ⟨b, off, h1, ?_⟩
    rw [h2]
    simp [nth, List.getElem?_take_of_lt hi]

theorem read_ints {H : Type} {enc : TypeId × Value → H} {W : World} {base : Nat} {v : Value} {d : DataW H} {p : List MemPlace}
    (hv : Value.okWide Try.prog W .any base 22 v) (h : DataW.Trod enc Try.prog W 0 (fun _ => true) true 22 v d p) : ∃ a n cap xs, v = .slice a n cap ∧ RdC W a n xs ∧ n ≤ maxLen := by
  obtain ⟨a0, len0, cap0, rfl⟩ := okWide_slice Try.underlying22 hv
  obtain ⟨fuel, hf⟩ := h
  exact read_cells (by simpa [Value.cells] using hf)


end Go.Proofs.Ythflmmgolegonaa

/-
  What is known of a slice of slices that a law is handed.
  No condition.
-/
namespace Go.Proofs.Ythflmmgolegonaa
set_option maxRecDepth 100000
open Go.ChangeShapes Go.WideShapes Go.ChangeAt Go.RowKit Go.Joins

theorem read_rows {H : Type} {enc : TypeId × Value → H} {W : World} {base : Nat} {v : Value} {d : DataW H} {p : List MemPlace}
    (hv : Value.okWide Try.prog W .any base 25 v) (h : DataW.Trod enc Try.prog W 0 (fun _ => true) true 25 v d p) : ∃ a n cap rows, v = .slice a n cap ∧ RdR W a n rows ∧ n ≤ maxLen ∧ ∀ i, i < n → (nthR rows i).length ≤ maxLen := by
  obtain ⟨a0, len0, cap0, rfl⟩ := okWide_slice Try.underlying25 hv
  obtain ⟨fuel, hf⟩ := h
  rcases Go.Deep.open_int_rows Try.underlying25 Try.underlying22 Try.underlying2 Try.cellsR Try.cellsI (by simpa [Value.cells] using hf) with ⟨hcs, _⟩ | ⟨y, l, c, A, L, C, Z, hcs, _, hl, hm, _, hr⟩
  · simp only [List.cons.injEq, and_true] at hcs
    exact ⟨none, 0, 0, [], hcs, ⟨rfl, fun i hi => by omega⟩, by omega, fun i hi => by omega⟩
  · simp only [List.cons.injEq, and_true] at hcs
    have e : ∀ i, i < l → nthR ((List.range l).map fun r => (Z r).take (L r)) i = (Z i).take (L i) := fun i hi => by simp [nthR, hi]
    refine ⟨some y, l, c, (List.range l).map fun r => (Z r).take (L r), hcs, ⟨by simp, fun i hi => ?_⟩, by omega, fun i hi => ?_⟩
    · obtain ⟨h1, h2, h3, h4, _, h5, h6⟩ := hr i (by omega)
      obtain ⟨b, off, ha, hc⟩ := add_cell (hr 0 (by omega)).1 h1
      refine ⟨b, off, A i, C i, ha, ?_, ?_⟩
      · rw [hc, e i hi]; simp [h4, h2]
      · rw [e i hi]
        have hlen : ((Z i).take (L i)).length = L i := by simp [h4, h2]
        refine ⟨rfl, fun j hj => ?_⟩
        rw [hlen] at hj
        cases hA : A i with
        | none => have := h5 hA; omega
        | some a' =>
          have h7 := (h6 a' hA).2
          obtain ⟨b1, off1, ha1, hc1⟩ := add_cell (h7 0 (by omega)) (h7 j (by omega))
          refine ⟨b1, off1, ha1, ?_⟩
          rw [hc1]
          simp [nth, List.getElem?_take_of_lt hj]
    · obtain ⟨h1, h2, h3, h4, _⟩ := hr i (by omega)
      rw [e i hi]
      simp; omega
end Go.Proofs.Ythflmmgolegonaa

/-
  What is known of doublings in memory, read off the form's own words.
  No condition.
-/
namespace Go.Proofs.Ythflmmgolegonaa
set_option maxRecDepth 100000
open Go.ChangeShapes Go.WideShapes Go.ChangeAt Go.RowKit Go.Joins

theorem Try.cellsD : Try.prog.cellsOf 24 = 2 := by kernel_rfl
theorem read_doubling {H : Type} {enc : TypeId × Value → H} {W : World} {base : Nat} {v : Value} {d : DataW H} {p : List MemPlace}
    (hv : Value.okWide Try.prog W .any base 24 v) (h : DataW.Trod enc Try.prog W 0 (fun _ => true) true 24 v d p) : ∃ q a n cap xs, v = .agg #[.int .i64 q, .slice a n cap] ∧ RdC W a n xs ∧ n ≤ maxLen ∧ (Lit.int .i64 q).wf = true := by
  obtain ⟨c0, c1, y0, y1, m, rfl, rfl, rfl, hy0, hy1⟩ := open_agg2 Try.underlying24 (by kernel_rfl) Try.cellsD hv h
  obtain ⟨q, e0, _, wq⟩ := DataW.trod_int Try.underlying2 hy0
  simp only [List.cons.injEq, and_true] at e0
  obtain ⟨a, n, cap, xs, e1, hr, hm⟩ := read_cells hy1
  exact ⟨q, a, n, cap, xs, by rw [e0, e1], hr, hm, wq⟩
end Go.Proofs.Ythflmmgolegonaa

/-
  What is known of a triple of matrices that a law is handed.
  No condition.
-/
namespace Go.Proofs.Ythflmmgolegonaa
set_option maxRecDepth 100000
open Go.ChangeShapes Go.WideShapes Go.ChangeAt Go.RowKit Go.Joins

theorem read_rowsC {H : Type} {enc : TypeId × Value → H} {W : World} {fuel : Nat} {v : Value} {x : DataW H × List MemPlace}
    (hf : DataW.trod enc Try.prog W 0 (fun _ => true) true fuel 25 [v] = some x) : ∃ a n cap rows, v = .slice a n cap ∧ RdR W a n rows ∧ n ≤ maxLen ∧ ∀ i, i < n → (nthR rows i).length ≤ maxLen := by
  rcases Go.Deep.open_int_rows Try.underlying25 Try.underlying22 Try.underlying2 Try.cellsR Try.cellsI hf with ⟨hcs, _⟩ | ⟨y, l, c, A, L, C, Z, hcs, _, hl, hm, _, hr⟩
  · simp only [List.cons.injEq, and_true] at hcs
    exact ⟨none, 0, 0, [], hcs, ⟨rfl, fun i hi => by omega⟩, by omega, fun i hi => by omega⟩
  · simp only [List.cons.injEq, and_true] at hcs
    have e : ∀ i, i < l → nthR ((List.range l).map fun r => (Z r).take (L r)) i = (Z i).take (L i) := fun i hi => by simp [nthR, hi]
    refine ⟨some y, l, c, (List.range l).map fun r => (Z r).take (L r), hcs, ⟨by simp, fun i hi => ?_⟩, by omega, fun i hi => ?_⟩
    · obtain ⟨h1, h2, h3, h4, _, h5, h6⟩ := hr i (by omega)
      obtain ⟨b, off, ha, hc⟩ := add_cell (hr 0 (by omega)).1 h1
      refine ⟨b, off, A i, C i, ha, ?_, ?_⟩
      · rw [hc, e i hi]; simp [h4, h2]
      · rw [e i hi]
        have hlen : ((Z i).take (L i)).length = L i := by simp [h4, h2]
        refine ⟨rfl, fun j hj => ?_⟩
        rw [hlen] at hj
        cases hA : A i with
        | none => have := h5 hA; omega
        | some a' =>
          have h7 := (h6 a' hA).2
          obtain ⟨b1, off1, ha1, hc1⟩ := add_cell (h7 0 (by omega)) (h7 j (by omega))
          refine ⟨b1, off1, ha1, ?_⟩
          rw [hc1]
          simp [nth, List.getElem?_take_of_lt hj]
    · obtain ⟨h1, h2, h3, h4, _⟩ := hr i (by omega)
      rw [e i hi]
      simp; omega

theorem Try.cellsT : Try.prog.cellsOf 47 = 3 := by kernel_rfl
theorem read_triple {H : Type} {enc : TypeId × Value → H} {W : World} {base : Nat} {v : Value} {d : DataW H} {p : List MemPlace}
    (hv : Value.okWide Try.prog W .any base 47 v) (h : DataW.Trod enc Try.prog W 0 (fun _ => true) true 47 v d p) : ∃ a1 n1 c1 R1 a2 n2 c2 R2 a3 n3 c3 R3, v = .agg #[.slice a1 n1 c1, .slice a2 n2 c2, .slice a3 n3 c3] ∧ RdR W a1 n1 R1 ∧ n1 ≤ maxLen ∧ (∀ i, i < n1 → (nthR R1 i).length ≤ maxLen) ∧ RdR W a2 n2 R2 ∧ n2 ≤ maxLen ∧ (∀ i, i < n2 → (nthR R2 i).length ≤ maxLen) ∧ RdR W a3 n3 R3 ∧ n3 ≤ maxLen ∧ (∀ i, i < n3 → (nthR R3 i).length ≤ maxLen) := by
  obtain ⟨u0, u1, u2, y0, y1, y2, m, rfl, rfl, rfl, hy0, hy1, hy2⟩ := open_agg3 Try.underlying47 (by kernel_rfl) Try.cellsT hv h
  obtain ⟨a1, n1, c1, R1, e1, r1, m1, l1⟩ := read_rowsC hy0
  obtain ⟨a2, n2, c2, R2, e2, r2, m2, l2⟩ := read_rowsC hy1
  obtain ⟨a3, n3, c3, R3, e3, r3, m3, l3⟩ := read_rowsC hy2
  exact ⟨a1, n1, c1, R1, a2, n2, c2, R2, a3, n3, c3, R3, by rw [e1, e2, e3], r1, m1, l1, r2, m2, l2, r3, m3, l3⟩
end Go.Proofs.Ythflmmgolegonaa
