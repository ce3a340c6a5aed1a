/-
  Contracts and plain laws, part 11: Draw18L, Law9, Read, ReadB.
  No condition.
-/
import Derived.Test.YtcocbainookkcaaGreatPart10
import Derived.Test.YtcocbainookkcaaGreatPart4
import Derived.Test.YtcocbainookkcaaGreatPart2
import Derived.Test.YtcocbainookkcaaGreatPart0
import Derived.ProofKit
import Derived.OpenShut
import Derived.ShutString
import Derived.ChangeOld
import Derived.Below
import Derived.Lib.SmallJoins
/-
  Draws of a space that can be extended and of a list of vectors of it.
  No condition.
-/
namespace Go.Proofs.YtcocbainookkcaaGreat
set_option maxRecDepth 100000
open Go.RowKit

namespace Chg
/-- A number from -1 to 1. -/
def SPred.pm (S : SrcP) : SPred (Drw.rel S) := ⟨fun v _ => ∃ r : Int, v = .int .i64 r ∧ -1 ≤ r ∧ r ≤ 1, fun _ _ _ h _ => h⟩
end Chg
theorem thru_wrap {d : Nat} {r : Int} (hd : d ≤ 7) (h0 : -1 ≤ r) (h1 : r ≤ 1) : ∃ k : Nat, k ≤ 9 ∧ IntKind.i64.wrap (IntKind.i64.wrap ((d : Int) + 1) + r) = (k : Int) := by
  refine ⟨((d : Int) + 1 + r).toNat, by omega, ?_⟩
  rw [IntWalk.i64_in ((d : Int) + 1) (by omega), IntWalk.i64_in _ (by omega)]
  omega
set_option maxHeartbeats 16000000 in
set_option maxRecDepth 100000 in
theorem s_drawSphereThrough (ca : Option Addr) (n cap : Nat) (w : World) (hn : n ≤ 4096) (hb : RdY w ca n) :
    Calls Tryz.prog 5 #[.slice ca n cap] w fun e w' => ∃ p a d c qs a1 m1 c1 rows, e = .returned (.tuple #[.agg #[.int .i64 p, .slice a d c], .slice a1 m1 c1]) ∧ 0 ≤ p ∧ p ≤ 17 ∧ d ≤ 7 ∧ m1 ≤ 9 ∧ (∀ i, i < m1 → (nthR rows i).length ≤ 8) ∧ OwnC w.heap.size w' a d c qs ∧ OwnR w.heap.size w' a1 m1 c1 rows ∧ Ext w w' := by
  obtain ⟨W, hW⟩ : ∃ W, W = w.alloc (.cells #[.int .i64 0, .slice none 0 0] 26) := ⟨_, rfl⟩
  have gW : Ext w W := by rw [hW]; exact ext_alloc _ _
  have HZ := Lib.hid (show W.heap.size = w.heap.size + 1 by rw [hW]; simp)
  have HR := Lib.hid (show SpAt W w.heap.size 0 (.slice none 0 0) by rw [hW]; exact ⟨by simp, by simp, by simp, by simp⟩)
  have HW := Lib.hid hW
  have GW := Lib.hid gW
  have HB := Lib.hid (hb.ext gW)
  clear gW hW hb
  go_enter Tryz.func5, Tryz.ntmps5
  go_wp2_with (fail)
  rw [← HW.out]
  refine Calls.mono (s_from ca n cap W hn HB.out) ?_
  rintro e w1 ⟨g, rfl, hg, hS, g1⟩
  obtain ⟨S, hSe⟩ : ∃ S : SrcP, S = ⟨g, ca, n, cap⟩ := ⟨_, rfl⟩
  obtain rfl : g = S.g := by rw [hSe]
  rw [← hSe] at hS
  have HS := Lib.hid hS
  have HR1 := Lib.hid (HR.out.ext g1)
  have G1 := Lib.hid (GW.out.trans g1)
  have hgR : w.heap.size ≠ S.g := by have := HZ.out; omega
  have hgw : w.heap.size + 1 ≤ S.g := by have := HZ.out; omega
  have hlt := hS.lt
  clear hg hS g1 hSe HR HW
  go_wp2_with (fail)
  refine Calls.mono (s_draw18 S w1 HS.out) ?_
  rintro e w2 ⟨p, a, d, c, qs, rfl, hp0, hp1, hd, ho, g2⟩
  obtain ⟨O, hO⟩ : ∃ O, O = w2.heap.size := ⟨_, rfl⟩
  obtain ⟨W2, hW2⟩ : ∃ W2, W2 = w2.alloc (.cells #[.int .i64 p, .slice a d c] 26) := ⟨_, rfl⟩
  have hz2 : W2.heap.size = O + 1 := by rw [hW2, hO]; simp
  obtain ⟨V, hV⟩ : ∃ V, V = W2.alloc (.cells #[] 24) := ⟨_, rfl⟩
  have gV : Ext w2 V := by rw [hV, hW2]; exact (ext_alloc _ _).alloc _
  have gV2 : Ext W2 V := by rw [hV]; exact ext_alloc _ _
  have HOA := Lib.hid (show SpAt V.drew O p (.slice a d c) by
    have : SpAt W2 O p (.slice a d c) := by rw [hW2, hO]; exact ⟨by simp, by simp, by simp, by simp⟩
    exact this.ext (gV2.trans (ext_drew _)))
  have HRW := Lib.hid (show OwnR (O + 1) V.drew (some ⟨O + 1, 0, none⟩) 0 0 [] by
    have h := ownR_empty W2
    rw [hz2, ← hV] at h
    exact h.ext (ext_drew _))
  have gD : Ext w2 V.drew := gV.trans (ext_drew _)
  have HR2 := Lib.hid (HR1.out.drw g2 hgR)
  have HQ2 := Lib.hid (ho.mono (show S.g + 1 ≤ _ from hlt))
  have GA := Lib.hid g2
  have G2 := Lib.hid (Drw.of_ext (S := S) gD)
  have HS0 := Lib.hid (g2.src HS.out)
  have hgO : O ≠ S.g := by rw [hO]; have := g2.size; omega
  have hOS : S.g + 1 ≤ O := by rw [hO]; have := g2.size; omega
  have HS2 := Lib.hid (G2.out.src HS0.out)
  have HVE := Lib.hid hV
  have HOE := Lib.hid hO
  have HOZ := Lib.hid hO
  have HWE := Lib.hid hW2
  clear gV gV2 gD ho g2 HR1 hV hO hW2
  go_wp2_with (fail)
  rw [← HWE.out, ← HOE.out]
  rw [← HVE.out]
  clear HVE HOE HWE hz2
  refine Chg.wp_region_lex (E := Drw.rel S) [(5, .lit S 5 [0, 0, 0, -1, 1]), (6, .pm S)] (by kernel_rfl) (by kernel_rfl) ?_
  (refine Chg.LexW.pure (v := ?_) rfl rfl (fun w1 he => ?_) ?_; rotate_left; ( have he' : Drw S V.drew _ := he; have x0 := he'.cell (p := ⟨O, 0, none⟩) hgO HOA.out.c0; have x1 := he'.cell (p := ⟨O, 1, none⟩) hgO HOA.out.c1; go_simp; rfl); simp only [Act.put, List.setIfInBounds_toArray, List.set_cons_zero, List.set_cons_succ])
  (refine Chg.LexW.pure (v := ?_) rfl rfl (fun w1 he => ?_) ?_; rotate_left; ( have he' : Drw S V.drew _ := he; have x0 := he'.cell (p := ⟨O, 0, none⟩) hgO HOA.out.c0; have x1 := he'.cell (p := ⟨O, 1, none⟩) hgO HOA.out.c1; go_simp; rfl); simp only [Act.put, List.setIfInBounds_toArray, List.set_cons_zero, List.set_cons_succ])
  (refine Chg.LexW.pure (v := ?_) rfl rfl (fun w1 he => ?_) ?_; rotate_left; ( go_simp; rfl); simp only [Act.put, List.setIfInBounds_toArray, List.set_cons_zero, List.set_cons_succ])
  (refine Chg.LexW.pure (v := ?_) rfl rfl (fun w1 he => ?_) ?_; rotate_left; ( go_simp; rfl); simp only [Act.put, List.setIfInBounds_toArray, List.set_cons_zero, List.set_cons_succ])
  (refine Chg.LexW.pure (v := ?_) rfl rfl (fun w1 he => ?_) ?_; rotate_left; ( go_simp; rfl); simp only [Act.put, List.setIfInBounds_toArray, List.set_cons_zero, List.set_cons_succ])
  (refine Chg.LexW.rel rfl rfl (fun w1 he hdep => ?_) (fun v hv => ?_); ( have he' : Drw S V.drew _ := he; exact ⟨.slice (some ⟨w1.heap.size, 0, none⟩) 5 5, w1.alloc (.cells #[.int .i64 0, .int .i64 0, .int .i64 0, .int .i64 (-1), .int .i64 1] 2), (by go_simp), Drw.of_ext (ext_alloc _ _), _, rfl, rdC_lit w1 _ [0, 0, 0, -1, 1], (by have := he'.size; have := HS2.out.lt; omega)⟩); simp only [Act.put, List.setIfInBounds_toArray, List.set_cons_zero, List.set_cons_succ])
  obtain ⟨_, b5, rfl, _⟩ := hv
  (refine Chg.LexW.callR (f := ?_) (args := ?_) rfl rfl (fun w1 => ?_) (fun w1 he hdep => ?_) (fun v hv => ?_); rotate_left 2; (go_simp; refine ⟨?_, ?_⟩ <;> rfl); ( have he' : Drw S V.drew _ := he; obtain ⟨_, q5, r5, r5'⟩ : (Chg.SPred.lit S 5 [0, 0, 0, -1, 1]).holds (.slice (some ⟨b5, 0, none⟩) 5 5) w1 := hdep (5, 18) (by decide +kernel); cases q5; refine Calls.mono (s_pick S b5 5 5 [0, 0, 0, -1, 1] w1 (he'.src HS2.out) (by decide) (by decide) r5 r5') ?_; rintro e w3 ⟨q, rfl, hq, x3⟩; exact ⟨_, rfl, x3, q, rfl, (by simp at hq; omega), (by simp at hq; omega)⟩); simp only [Act.put, List.setIfInBounds_toArray, List.set_cons_zero, List.set_cons_succ])
  obtain ⟨_, r, rfl, hr0, hr1⟩ := hv
  (refine Chg.LexW.pure (v := ?_) rfl rfl (fun w1 he => ?_) ?_; rotate_left; ( go_simp; rfl); simp only [Act.put, List.setIfInBounds_toArray, List.set_cons_zero, List.set_cons_succ])
  (refine Chg.LexW.pure (v := ?_) rfl rfl (fun w1 he => ?_) ?_; rotate_left; ( go_simp; rfl); simp only [Act.put, List.setIfInBounds_toArray, List.set_cons_zero, List.set_cons_succ])
  refine Chg.LexW.nil (fun w3 he hkn => ?_)
  have he' : Drw S V.drew w3 := he
  obtain ⟨k, hk9, hkw⟩ := thru_wrap hd hr0 hr1
  have HOB := Lib.hid (HOA.out.drw he' hgO)
  have HRW3 := Lib.hid (he'.ownR HRW.out (by omega))
  have G3 := Lib.hid (G2.out.trans he')
  have hOw : O = w2.heap.size := HOZ.out
  have hww : w.heap.size < O := by have := G1.out.size; have := HZ.out; omega
  clear he he' hkn HOA HRW G2 HS2
  go_wp2_with (fail)
  clear hOw
  go_loopw [6, 7] (fun o i wr => ∃ (m j : Nat) (b : Option Addr) (cc : Nat) (rows : List (List Int)), m + j ≤ 9 ∧ i = .int .i64 j ∧ o = .slice b m cc ∧ Hid (∀ i, i < m → (nthR rows i).length ≤ 8) ∧ Hid (OwnR (O + 1) wr b m cc rows) ∧ Hid (SpAt wr O p (.slice a d c)) ∧ Hid (Drw S w2 wr)) (fun _ i _ => (intOf i).toNat)
  case atStart => exact ⟨0, k, _, _, _, by omega, by rw [hkw], rfl, Lib.hid (fun i hi => absurd hi (Nat.not_lt_zero _)), HRW3, HOB, G3⟩
  case round =>
    rename World => wr
    clear HRW3 HOB G3 hkw hk9
    obtain ⟨m, j, b, cc, rows, hmj, rfl, rfl, HL, HRX, HC, G⟩ := hrel
    have c0 := HC.out.c0
    have c1 := HC.out.c1
    by_cases hj : 0 < j
    · obtain ⟨t, rfl⟩ : ∃ t, j = t + 1 := ⟨j - 1, by omega⟩
      go_wp2_with (fail)
      clear c0 c1
      refine Calls.mono (s_vec18 S p a d c wr (G.out.src HS0.out) hp0 (by omega) (by omega)) ?_
      rintro e v2 ⟨a2, cap2, m2, xs2, rfl, hm2, ho2, g2⟩
      have HX := Lib.hid (show OwnC (cutW v2 wr.heap.size).heap.size v2 a2 m2 cap2 xs2 by rw [cutW_size g2.size]; exact ho2)
      have GG := Lib.hid g2
      have HCL := HC.out.lt
      have HC3 := Lib.hid (HC.out.drw g2 hgO)
      have G4 := Lib.hid (G.out.trans g2)
      clear ho2 g2 HC
      go_wp2_with (at_builtin; refine wpList_pushR rfl (.tmp 25) (.tmp 29) rfl rfl rfl (w0 := cutW v2 wr.heap.size) (GG.out.ownCut HRX.out (by omega)) ((cutW_ext GG.out.size).trans (ext_alloc _ _)) (HX.out.ext (ext_alloc _ _)) ?hc ?hn ?hB ?hk)
      case hc => simp
      case hn => omega
      case hB => rw [cutW_size GG.out.size]; exact HCL
      case hk =>
        intro g' cap' w5 ho5 hg5 _
        have HR5 := Lib.hid ho5
        have G5 := Lib.hid ((G4.out.alloc _).grown hg5 (fun k hk => by have := HRX.out.blk k hk; have := HOZ.out; omega))
        have HL5 := Lib.hid (show ∀ i, i < m + 1 → (nthR (rows ++ [xs2]) i).length ≤ 8 from fun i hi => by
          have hl := HRX.out.1
          by_cases hin : i < m
          · rw [nthR_snoc (by omega)]; exact HL.out i hin
          · obtain rfl : i = m := by omega
            rw [← hl, nthR_last, HX.out.1]; omega)
        have HC5 := Lib.hid ((HC3.out.ext (ext_alloc _ _)).block (hg5.block O (HC3.out.ext (ext_alloc _ _)).lt (fun e => by have := HRX.out.blk O e.symm; omega)))
        clear ho5 hg5 HC3 G4 HL HRX HX GG G
        go_wp2_with (fail)
        go_roundw
        case rel => exact ⟨m + 1, t, _, cap', _, by omega, by go_num, rfl, HL5, HR5, HC5, G5⟩
        case measure => simp [intOf]
    · obtain rfl : j = 0 := by omega
      have HR9 := Lib.hid (HR2.out.drw G.out hgR)
      have HQ9 := Lib.hid (G.out.own HQ2.out (Nat.lt_succ_self _))
      have r0 := HR9.out.c0
      have r1 := HR9.out.c1
      have f0 := HR9.out.f0
      have f1 := HR9.out.f1
      go_wp2_with (fail)
      refine bodyPost_ret (v := .tuple #[.agg #[.int .i64 p, .slice a d c], .slice b m cc]) (by simp [results, Tryz.results5, go_sem, r0, r1]) rfl ⟨p, a, d, c, qs, b, m, cc, rows, rfl, hp0, hp1, hd, by omega, HL.out, ?_, ?_, ?_⟩
      · exact ((HQ9.out.other (by simp; omega) _).other (by simp; omega) _).mono (by omega)
      · exact ((HRX.out.keepB fun k hk _ => Below.heap_setCell _ _ _ _ (by simp; omega)).keepB fun k hk _ => Below.heap_setCell _ _ _ _ (by simp; omega)).mono (by omega)
      · exact (((GA.out.trans G.out).toExt G1.out (by omega)).setCell (by simp) _).setCell (by simp) _
end Go.Proofs.YtcocbainookkcaaGreat

/-
  The laws' helpers of the later layers: sums, multiples, zero; append that names the block.
  No condition.
-/
namespace Go.Proofs.YtcocbainookkcaaGreat
set_option maxRecDepth 100000
open Go.RowKit

theorem run_push_at {B : Nat} {w : World} {ra : Option Addr} {n cap : Nat} {xs : List Int} {v : Int} {g : Nat} (hown : OwnC B w ra n cap xs) (hc : w.cell? ⟨g, 0, none⟩ = some (.int .i64 v)) (hn : n ≤ 4194304) (hB : B ≤ w.heap.size) (ty : TypeId) :
    ∃ g' cap' w', (Builtin.append_ #[24, 24] ty #[.slice ra n cap, .slice (some ⟨g, 0, none⟩) 1 1]).run Tryz.prog w = .ok (.slice (some ⟨g', 0, none⟩) (n + 1) cap') w' ∧
      OwnC B w' (some ⟨g', 0, none⟩) (n + 1) cap' (xs ++ [v]) ∧ w.grownBy w' (Value.slice ra n cap).ownBlock ∧ (g' = w.heap.size ∨ (Value.slice ra n cap).ownBlock = some g') ∧ (∀ W : World, W.heap.size ≤ B → Ext W w → Ext W w') := by
  obtain ⟨i0, hi, hz0, hz1, hz2⟩ := info_parts Tryz.infoI
  obtain ⟨v', w', hr, h2, h3, _, hbk⟩ := run_append_own_at (P := Tryz.prog) w B 24 ty 2 i0 (.int .i64 0) 1 8 Tryz.underlying24 hi hz0 hz1 hz2 rfl (by decide) (.slice ra n cap) n (xs.map (.int .i64)) hown.2
    ⟨g, 0, none⟩ 1 1 [.int .i64 v] rfl (fun j u hj => by
      cases j with
      | zero => simp only [List.getElem?_cons_zero, Option.some.injEq] at hj; subst hj; simpa [Addr.add] using hc
      | succ j => simp at hj) (fun u hu => by simp only [List.mem_singleton] at hu; subst hu; rfl) (by unfold maxLen; omega) (by omega) hB
  have h2' : w'.ownsRow B 2 1 v' (n + 1) ((xs ++ [v]).map (.int .i64)) := by rw [List.map_append]; exact h2
  obtain ⟨g', cap', rfl⟩ := OwnC.form h2' (by omega)
  exact ⟨g', cap', w', hr, ⟨by simp [hown.1], h2'⟩, h3, hbk.elim (fun h => .inr h.symm) (fun h => .inl (Option.some.inj h)), fun W hW hE => hE.grown h3 fun k hk => Nat.le_trans hW (hown.blk k hk)⟩

theorem wpList_push_at {ops : Array Oper} {rest : List Oper} {o : Oper} {a : Act} {Q : Exit → Act → World → Prop} {w : World} (hgd : o.guard = none) (s x : Operand)
    (ho : o.op = .call { callee := .builtin .append, args := #[s, x], argTypes := #[24, 24] })
    {B : Nat} {ra : Option Addr} {n cap : Nat} {xs : List Int} {v : Int} {g : Nat} (hs : a.eval s = .slice ra n cap) (hx : a.eval x = .slice (some ⟨g, 0, none⟩) 1 1)
    (hown : OwnC B w ra n cap xs) (hc : w.cell? ⟨g, 0, none⟩ = some (.int .i64 v)) (hn : n ≤ 4194304) (hB : B ≤ w.heap.size)
    (h : ∀ g' cap' w', OwnC B w' (some ⟨g', 0, none⟩) (n + 1) cap' (xs ++ [v]) → w.grownBy w' (Value.slice ra n cap).ownBlock → (g' = w.heap.size ∨ (Value.slice ra n cap).ownBlock = some g') → (∀ W : World, W.heap.size ≤ B → Ext W w → Ext W w') →
      wpList Tryz.prog ops Q rest (a.put o.dst (.slice (some ⟨g', 0, none⟩) (n + 1) cap')) w') : wpList Tryz.prog ops Q (o :: rest) a w := by
  refine wpList_plain hgd fun K hK => ?_
  obtain ⟨g', cap', w', hr, h1, h2, h2b, h3⟩ := run_push_at hown hc hn hB o.type
  unfold Oper.wp execOp
  simp only [ho, resolve, invoke, builtin, Sem.run_bind, Sem.run_pure, Result.andThen_ok, List.map_toArray, List.map_cons, List.map_nil, hs, hx, hr]
  exact hK _ _ (h g' cap' w' h1 h2 h2b h3)
/-- An owned row stays, where another one is grown. -/
theorem OwnC.grownO {B : Nat} {w w' : World} {g n cap h m c : Nat} {xs : List Int} (ho : OwnC B w (some ⟨g, 0, none⟩) n cap xs) (hg : w.grownBy w' (Value.slice (some ⟨h, 0, none⟩) m c).ownBlock) (hne : g ≠ h) : OwnC B w' (some ⟨g, 0, none⟩) n cap xs :=
  ho.keep fun g' hg' => by
    simp only [Option.some.injEq, Addr.mk.injEq, and_true] at hg'
    subst hg'
    exact hg.block _ (ho.base_of _ rfl).2 (fun e => hne (Option.some.inj e))
theorem add_small {p x y : Int} (hx : 0 ≤ x) (hy : 0 ≤ y) : (x + y).tmod p = (x + 1 * y) % p := by
  rw [Int.one_mul, Int.tmod_eq_emod_of_nonneg (by omega)]

end Go.Proofs.YtcocbainookkcaaGreat

/-
  What is known of the arguments of a law in memory, read off the form's own words.
  No condition.
-/
namespace Go.Proofs.YtcocbainookkcaaGreat
set_option maxRecDepth 100000
open Go.ChangeShapes Go.WideShapes Go.ChangeAt Go.RowKit Go.Joins

theorem own : ownKnob Tryz.prog.godebug = none := by kernel_rfl
theorem laidOut : laidOutB Tryz.prog = true := by kernel_rfl
theorem Tryz.cellsI : Tryz.prog.cellsOf 2 = 1 := by kernel_rfl
theorem Tryz.cellsR : Tryz.prog.cellsOf 24 = 1 := by kernel_rfl

theorem add_cell {w : World} {x : Addr} {i : Nat} {v v0 : Value} (h0 : w.cell? (x.add 0) = some v0) (h : w.cell? (x.add i) = some v) : ∃ b off, some x = some (⟨b, off, none⟩ : Addr) ∧ w.cell? ⟨b, off + i, none⟩ = some v := by
  obtain ⟨b, off, spot⟩ := x
  cases spot with
  | none =>
    refine ⟨b, off, rfl, ?_⟩
    unfold Addr.add at h
    split at h
    · rename_i hi; subst hi; exact h
    · exact h
  | some s =>
    simp only [World.cell?, Addr.add, if_true] at h0
    split at h0
    · simp at h0
    · cases h0

theorem read_cells {H : Type} {enc : TypeId × Value → H} {W : World} {fuel : Nat} {v : Value} {x : DataW H × List MemPlace}
    (hf : DataW.trod enc Tryz.prog W 0 (fun _ => true) true fuel 24 [v] = some x) : ∃ a n cap xs, v = .slice a n cap ∧ RdC W a n xs ∧ n ≤ maxLen := by
  rcases open_ints Tryz.underlying24 Tryz.underlying2 Tryz.cellsI hf with ⟨hcs, _⟩ | ⟨y, l, c, zs, hcs, _, hl, hm, hz, _, hcell, hwz⟩
  · simp only [List.cons.injEq, and_true] at hcs
    exact ⟨none, 0, 0, [], hcs, ⟨rfl, fun i hi => by omega⟩, by omega⟩
  · simp only [List.cons.injEq, and_true] at hcs
    have hz' : zs.length = c := by simpa using hz
    refine ⟨some y, l, c, zs.take l, hcs, ⟨by simp; omega, fun i hi => ?_⟩, by omega⟩
    obtain ⟨b, off, h1, h2⟩ := add_cell (hcell 0 (by omega)) (hcell i (by omega))
    refine ⟨b, off, h1, ?_⟩
    rw [h2]
    simp [nth, List.getElem?_take_of_lt hi]

theorem read_ints {H : Type} {enc : TypeId × Value → H} {W : World} {base : Nat} {v : Value} {d : DataW H} {p : List MemPlace}
    (hv : Value.okWide Tryz.prog W .any base 24 v) (h : DataW.Trod enc Tryz.prog W 0 (fun _ => true) true 24 v d p) : ∃ a n cap xs, v = .slice a n cap ∧ RdC W a n xs ∧ n ≤ maxLen := by
  obtain ⟨a0, len0, cap0, rfl⟩ := okWide_slice Tryz.underlying24 hv
  obtain ⟨fuel, hf⟩ := h
  exact read_cells (by simpa [Value.cells] using hf)


end Go.Proofs.YtcocbainookkcaaGreat

/-
  What is known of the bytes that a law is handed.
  No condition.
-/
namespace Go.Proofs.YtcocbainookkcaaGreat
set_option maxRecDepth 100000
open Go.ChangeShapes Go.WideShapes Go.ChangeAt Go.RowKit Go.Joins

theorem Tryz.cellsB : Tryz.prog.cellsOf 5 = 1 := by kernel_rfl

theorem read_bytes {H : Type} {enc : TypeId × Value → H} {W : World} {base : Nat} {v : Value} {d : DataW H} {p : List MemPlace}
    (hv : Value.okWide Tryz.prog W .any base 22 v) (h : DataW.Trod enc Tryz.prog W 0 (fun _ => true) true 22 v d p) : ∃ a n cap, v = .slice a n cap ∧ RdY W a n := by
  obtain ⟨a0, len0, cap0, rfl⟩ := okWide_slice Tryz.underlying22 hv
  obtain ⟨fuel, hf⟩ := h
  have hf' : DataW.trod enc Tryz.prog W 0 (fun _ => true) true fuel 22 [.slice a0 len0 cap0] = some (d, p) := by simpa [Value.cells] using hf
  rcases open_ints Tryz.underlying22 Tryz.underlying5 Tryz.cellsB hf' with ⟨hcs, _⟩ | ⟨y, l, c, zs, hcs, _, hl, hm, hz, _, hcell, hwz⟩
  · simp only [List.cons.injEq, and_true] at hcs
    exact ⟨none, 0, 0, hcs, fun i hi => by omega⟩
  · simp only [List.cons.injEq, and_true] at hcs
    have hz' : zs.length = c := by simpa using hz
    refine ⟨some y, l, c, hcs, fun i hi => ?_⟩
    obtain ⟨b, off, h1, h2⟩ := add_cell (hcell 0 (by omega)) (hcell i (by omega))
    have hi' : i < zs.length := by omega
    have hw := hwz (zs.getD i 0) (by rw [List.getD_eq_getElem?_getD, List.getElem?_eq_getElem hi']; exact List.getElem_mem hi')
    refine ⟨b, off, zs.getD i 0, h1, h2, ?_⟩
    replace hw : (decide (IntKind.u8.min ≤ zs.getD i 0) && decide (zs.getD i 0 ≤ IntKind.u8.max)) = true := hw
    have h8 : IntKind.u8.min = 0 ∧ IntKind.u8.max = 255 := by decide
    rw [h8.1, h8.2] at hw
    simp only [Bool.and_eq_true, decide_eq_true_eq] at hw
    omega
end Go.Proofs.YtcocbainookkcaaGreat
