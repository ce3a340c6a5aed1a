/-
  Contracts and plain laws, part 11: Float, Solve, InvM, Inverse, InvOf, HasInv.
  No condition.
-/
import Derived.Test.YtbgnfjckbjmgbaaPart0
import Derived.Test.YtbgnfjckbjmgbaaPart9
import Derived.Test.YtbgnfjckbjmgbaaPart10
import Derived.Test.YtbgnfjckbjmgbaaPart8
import Derived.Test.YtbgnfjckbjmgbaaPart2
import Derived.Test.YtbgnfjckbjmgbaaPart1
import Derived.Test.YtbgnfjckbjmgbaaPart6
/-
  A region whose first operation is a move that may be carried out at any time: it is carried out first.
  No condition. General over every program.
-/
namespace Go.Proofs.Ytbgnfjckbjmgbaa
set_option maxRecDepth 100000
open Go.RowKit

/-- The exit is normal. -/
def strictQ (Q : Exit → Act → World → Prop) : Exit → Act → World → Prop := fun e a w => e = .normal ∧ Q .normal a w
theorem strictQ_normal {Q : Exit → Act → World → Prop} {a : Act} {w : World} (h : Q .normal a w) : strictQ Q .normal a w := ⟨rfl, h⟩

section
variable {P : Program} {ops : Array Oper} {md : Region.Mode} {Q : Exit → Act → World → Prop}
theorem not_letsOut : ¬ LetsOut (strictQ Q) := fun ⟨_, _, h, _⟩ => by cases h
theorem wp_strict {o : Oper} {a : Act} {w : World} {K K' : Act → World → Prop} (h : ∀ a w, K a w → K' a w) (hh : o.wp P a w K (strictQ Q)) : o.wp P a w K' Q := by
  unfold Oper.wp at *
  generalize (execOp a.eval o).run P w = r at *
  cases r with
  | ok n w' =>
    cases n <;> simp only [Oper.upon] at hh ⊢ <;>
      first
        | exact h _ _ hh
        | exact Calls.mono hh (fun e w'' he => by
            cases e with
            | returned v => exact h _ _ he
            | panicked c => exact absurd he.1 (by simp)
            | outgrown => exact absurd he not_letsOut)
        | exact Rows.mono hh (fun _ _ he => h _ _ he)
  | halt x w' =>
    cases x <;> simp only [Oper.upon] at hh ⊢ <;> first | exact hh.elim | exact absurd hh.1 (by simp) | exact hh
theorem wpOp_strict {i : Nat} {a : Act} {w : World} {K K' : Act → World → Prop} (h : ∀ a w, K a w → K' a w) (hh : wpOp P ops (strictQ Q) i K a w) : wpOp P ops Q i K' a w := by
  unfold wpOp at *
  split
  · exact h _ _ (by simpa [*] using hh)
  · rename_i o ho
    simp only [ho] at hh
    split
    · rename_i hw
      simp only [hw, if_true] at hh
      rcases hh with hh | hh
      · exact .inl (wp_strict h hh)
      · exact absurd hh.2 not_letsOut
    · rename_i hw; simp only [hw] at hh; exact h _ _ hh
theorem wpAny_strict : ∀ (f : Nat) (listed : Array Bool) (a : Act) (w : World), wpAny P md ops (strictQ Q) f listed a w → wpAny P md ops Q f listed a w
  | 0, _, _, _, h => ⟨h.1, h.2.2⟩
  | f + 1, _, _, _, h => ⟨fun h0 => (h.1 h0).2, fun i hi => wpOp_strict (fun a w => wpAny_strict f _ a w) (h.2 i hi)⟩

def Region.sinkB1 (md : Region.Mode) (ops : Array Oper) (m n : Nat) : Bool :=
  (List.range n).all fun i => decide (i < m) || (List.range (n + 1)).any fun j => decide (i < j) && Region.waitsFor md ops j i
theorem tail_waits1 {m n : Nat} {listed : Array Bool} (hs : Region.sinkB1 md ops m n = true) (hc : Region.chainB md ops n = true) (hn : n < ops.size) (inv : HeadInv md ops n listed) :
    ∀ (d i : Nat), n - i = d → m ≤ i → i < n → listed.getD i true = false → ∀ t, n ≤ t → t ∉ Region.ready md ops listed := by
  intro d
  induction d using Nat.strongRecOn with
  | _ d ih =>
    intro i hd hm hi hun t ht hr
    obtain ⟨_, ot, hot, hall⟩ := mem_ready.1 hr
    have htlt : t < ops.size := (Array.getElem?_eq_some_iff.1 hot).1
    by_cases htn : t = n
    · subst htn
      have h1 := List.all_eq_true.1 hs i (List.mem_range.2 hi)
      simp only [Bool.or_eq_true, decide_eq_true_eq] at h1
      obtain ⟨j, hj, hj2⟩ := List.any_eq_true.1 (h1.resolve_left (by omega))
      simp only [Bool.and_eq_true, decide_eq_true_eq] at hj2
      obtain ⟨oj, hoj, e, he, hb, hon⟩ := Region.waitsFor_spec hj2.2
      have hjle : j ≤ t := by have := List.mem_range.1 hj; omega
      by_cases hjt : j = t
      · subst hjt
        have : oj = ot := Option.some.inj (hoj.symm.trans hot)
        subst this
        have h2 := hall e he hb
        rw [hon, getD_both hun] at h2
        cases h2
      · cases hl : listed.getD j false with
        | true =>
          have h2 := inv.closed j oj hoj hl e he hb
          rw [hon, getD_both hun] at h2
          cases h2
        | false =>
          have hjs : j < listed.size := by rw [inv.size]; omega
          exact ih (t - j) (by omega) j rfl (by omega) (by omega) (getD_in hjs hl) t (Nat.le_refl _) hr
    · have h1 := List.all_eq_true.1 hc t (List.mem_range.2 htlt)
      simp only [Bool.or_eq_true, decide_eq_true_eq] at h1
      rcases h1 with h1 | h1
      · omega
      · obtain ⟨o', ho', e, he, hb, hon⟩ := Region.waitsFor_spec h1
        have : o' = ot := Option.some.inj (ho'.symm.trans hot)
        subst this
        have h2 := hall e he hb
        rw [hon, getD_both (inv.tail (t - 1) (by omega) (by omega))] at h2
        cases h2

theorem LexR.any1 {w0 : World} {sp : Nat → Option SPred} {m n : Nat} {B : Array Bool → Bool} {Lq : Act → World → Prop} (hsel : Region.noSelect ops = true)
    (hlt : ∀ i, m ≤ i → i < n → ∀ listed, HeadInv md ops n listed → listed.getD i true = false → ∀ j ∈ Region.ready md ops listed, j < n)
    (hdone : ∀ listed, B listed = true → ∀ j ∈ Region.ready md ops listed, n ≤ j)
    (hd : Nat → Nat → Array Bool → Bool) (h0 : ∀ listed, hd 0 n listed = true → B listed = true)
    (h1 : ∀ f k listed, hd (f + 1) k listed = true → ((Region.ready md ops listed).contains k = true ∧ Region.free md ops listed k = true) ∧ hd f (k + 1) (listed.setIfInBounds k true) = true) :
    ∀ (l : List Oper) (k : Nat) (listed : Array Bool) (a : Act) (env : List (Nat × Value)), m ≤ k → (∀ j, j < l.length → l[j]? = ops[k + j]?) → k + l.length = n → HeadInv md ops n listed →
    (∃ w, Ext w0 w ∧ Known sp env w) → hd l.length k listed = true → LexR P ops w0 sp Lq l k a env →
    AnyR P ops md w0 sp n (fun listed' a' w' => B listed' = true ∧ Lq a' w') l.length listed a env
  | [], k, listed, a, env, _, _, hk0, _, _, hB, h => fun w he hk => ⟨h0 _ (by obtain rfl : k = n := (by simpa using hk0); exact hB), h w he hk⟩
  | o :: l, k, listed, a, env, hmk, hl, hk, inv, hsat, hB, h => by
    have ho : ops[k]? = some o := by simpa using (hl 0 (by simp)).symm
    obtain ⟨⟨hr, hf⟩, hB'⟩ := h1 _ _ _ (by simpa using hB)
    have hkn : k < n := by simp only [List.length_cons] at hk; omega
    have hr' : k ∈ Region.ready md ops listed := by simpa using hr
    exact AnyR.first ho (Region.noSelect_spec hsel) (hlt k hmk hkn) (fun listed' a' w' hL => hdone _ hL.1) l.length listed a env inv (Region.free_spec ho hf) hr' hsat h.1
      fun v hv => LexR.any1 hsel hlt hdone hd h0 h1 l (k + 1) _ _ _ (by omega) (fun j hj => by have := hl (j + 1) (by simp; omega); simpa [Nat.add_assoc, Nat.add_comm 1 j] using this) (by simp only [List.length_cons] at hk; omega) (inv.set hr' hkn)
        (hv.sat hsat) hB' (h.2 v hv)
end

def Region.tail1B (ops : Array Oper) (n N : Nat) : Bool :=
  Region.noSelect ops && decide (n < ops.size) && decide (1 ≤ n) && Region.sinkB1 .any ops 1 n && Region.chainB .any ops n && ((Region.ready .any ops (Array.replicate ops.size false)).contains 0 && Region.free .any ops (Array.replicate ops.size false) 0) &&
    Region.lexHead .any ops (ops.size - n) (n - 1) 1 ((Array.replicate ops.size false).setIfInBounds 0 true) && ssaB ops && dstB ops N

/-- The first operation is a move; the operations from number n on go one after another behind all others but it. -/
theorem wp_region_lex_tail1 {P : Program} {id : Nat} {Q : Exit → Act → World → Prop} {a : Act} {w : World} {o0 : Oper} {l : List Oper} (n : Nat) (sps : List (Nat × SPred)) (v0 : Value) (hm : P.follows .mixedOrders = true)
    (hB : Region.tail1B (o0 :: l).toArray n a.tmps.size = true) (hsp : spOf sps 0 = none) (hw : Region.wanted o0 (yielded (o0 :: l).toArray a.tmps) = true) (hy : ∀ w, (execOp a.eval o0).run P w = .ok (.value v0) w)
    (h : LexW P (o0 :: l).toArray w.drew (spOf sps) (fun a' w' => wpList P (o0 :: l).toArray (strictQ Q) ((o0 :: l).drop n) a' w') (((o0 :: l).take n).drop 1) 1 (a.put o0.dst v0) [(0, v0)]) : (Code.region id (o0 :: l).toArray true).wp P Q a w := by
  simp only [Region.tail1B, Bool.and_eq_true, decide_eq_true_eq] at hB
  obtain ⟨⟨⟨⟨⟨⟨⟨⟨hsel, hn⟩, hn1⟩, hs⟩, hc⟩, hr0, hf0⟩, hlex⟩, hssa⟩, hdst⟩ := hB
  obtain ⟨ops, hops⟩ : ∃ ops, ops = (o0 :: l).toArray := ⟨_, rfl⟩
  have h0 : ops[0]? = some o0 := by rw [hops]; simp
  rw [← hops] at hn hsel hs hc hr0 hf0 hlex hssa hdst hw h ⊢
  have hsize : ops.size = l.length + 1 := by rw [hops]; simp
  obtain ⟨L, hL⟩ : ∃ L, L = o0 :: l := ⟨_, rfl⟩
  have hLl : L.length = ops.size := by rw [hL, hsize, List.length_cons]
  rw [← hL] at h
  have hget : ∀ j, L[j]? = ops[j]? := fun j => by rw [hL, hops, List.getElem?_toArray]
  have htl : ((L.take n).drop 1).length = n - 1 := by simp; omega
  have hdl : (L.drop n).length = ops.size - n := by simp; omega
  have inv0 : HeadInv .any ops n (Array.replicate ops.size false) := by rw [hops]; exact headInv0 _ n
  have inv1 := inv0.set (by simpa using hr0) (show 0 < n by omega)
  have linv : LexInv ops a.tmps.size 1 (a.put o0.dst v0) [(0, v0)] := (lexInv0 (ops := ops) a.tmps.size a rfl).step h0 hdst v0
  have hk1 : Known (spOf sps) [(0, v0)] w.drew := fun p hp => by
    simp only [List.mem_singleton] at hp
    subst hp
    simp only [hsp, holdsO]
  have hR := LexW.lexR hssa hdst _ 1 _ _ (fun j hj => by
    rw [htl] at hj
    rw [List.getElem?_drop, List.getElem?_take_of_lt (by omega), hget]) linv h
  have H := LexR.any1 (md := .any) (m := 1) (n := n) (B := fun listed => Region.seqB .any ops (ops.size - n) n listed) hsel
    (fun i hi1 hin listed inv hun j hj => by
      rcases Nat.lt_or_ge j n with h | h
      · exact h
      · exact absurd hj (tail_waits1 hs hc hn inv _ i rfl hi1 hin hun j h))
    (fun listed hb => seqB_ready hb)
    (fun f k listed => Region.lexHead .any ops (ops.size - n) f k listed) (fun listed hh => by simpa [Region.lexHead] using hh)
    (fun f k listed hh => by simpa [Region.lexHead] using hh) ((L.take n).drop 1) 1 _ _ [(0, v0)] (Nat.le_refl _) (fun j hj => by
      rw [htl] at hj
      rw [List.getElem?_drop, List.getElem?_take_of_lt (by omega), hget]) (by rw [htl]; omega) inv1 ⟨w.drew, Ext.refl _, hk1⟩ (by rw [htl]; exact hlex) hR
  refine wp_region_any hm ?_
  have S := AnyR.sound (Q := strictQ Q) (g := ops.size - n) (fun listed a' w' hL' => by
    have := wpAny_of_seq (md := .any) (Q' := strictQ Q) (L.drop n) n listed a' w' (fun j => by rw [List.getElem?_drop, hget]) (by rw [hdl]; exact hL'.1) hL'.2
    rwa [hdl] at this) _ _ _ _ w.drew (Ext.refl _) hk1 H
  rw [htl, show n - 1 + (ops.size - n) = ops.size - 1 by omega] at S
  have T := wpAny_take (md := .any) (Q := strictQ Q) (fuel := ops.size - 1) (listed := Array.replicate ops.size false) h0 hsel hf0 hr0 (fun c a w hq => absurd hq.1 (by simp)) (.inl ⟨hw, hy⟩) S
  rw [show ops.size - 1 + 1 = ops.size by omega] at T
  exact wpAny_strict _ _ _ _ T

end Go.Proofs.Ytbgnfjckbjmgbaa

/-
  Contracts: solutions of linear systems, in the program and in the reference.
  No condition.
-/
namespace Go.Proofs.Ytbgnfjckbjmgbaa
set_option maxRecDepth 100000
open Go.RowKit

theorem OwnR.other {B : Nat} {w : World} {a : Option Addr} {n cap : Nat} {rows : List (List Int)} (h : OwnR B w a n cap rows) {p : Addr} (hp : p.block < B) (v : Value) : OwnR B (w.setCell p v) a n cap rows := by
  obtain ⟨h1, vs, ⟨h2, h3⟩, hap, h4⟩ := h
  refine ⟨h1, vs, ⟨h2, ?_⟩, hap, fun i hi => ?_⟩
  · rcases h3 with h3 | ⟨g, c, cur, hv, hb, hh, h5⟩
    · exact .inl h3
    · exact .inr ⟨g, c, cur, hv, hb, by rw [Below.heap_setCell _ _ _ _ (by omega)]; exact hh, h5⟩
  · obtain ⟨ai, ci, h5, h6⟩ := h4 i hi
    exact ⟨ai, ci, h5, h6.other hp v⟩

/-- The solution and whether there is one. -/
def redL (p : Int) (m : Nat) (rows : List (List Int)) (u : List Int) (n : Nat) : List (List Int) := basisL p (m + 1) (wideL rows u n)
def solR (m : Nat) (red : List (List Int)) : List Int := if okS m red = true then solL m red else []

theorem solL_len' {n : Nat} {red : List (List Int)} : (solL n red).length = n := by simp [solL]

set_option maxHeartbeats 8000000 in
set_option maxRecDepth 100000 in
theorem c_solve (p : Int) (a : Option Addr) (n cap m : Nat) (rows : List (List Int)) (au : Option Addr) (cu : Nat) (u : List Int) (w : World) (hpr : primeB p = true) (hn : 0 < n) (hn2 : n ≤ 4095) (hm : 0 < m) (hm2 : m ≤ 4095) (hx : RdR w a n rows) (hg : RowsG p m rows) (hu : RdC w au n u) (hgu : Good p n u) :
    Calls Try.prog 165 #[.int .i64 p, .slice a n cap, .slice au n cu] w fun e w' => ∃ ra rc, e = .returned (.tuple #[.slice ra (solR m (redL p m rows u n)).length rc, .bool (okS m (redL p m rows u n))]) ∧ OwnC w.heap.size w' ra (solR m (redL p m rows u n)).length rc (solR m (redL p m rows u n)) ∧ Ext w w' := by
  have hpb := prime_bd hpr
  have HX := Lib.hid hx
  have HU := Lib.hid hu
  have HXL := Lib.hid hx.1
  have HLen := Lib.hid (show ∀ i, i < n → (nthR rows i).length = m from fun i hi => (hg i (by rw [hx.1]; exact hi)).1)
  have HWG := Lib.hid (wideL_good hg hgu (by rw [hx.1]; exact Nat.le_refl _))
  obtain ⟨cc, hbas⟩ := basis_red hpr HWG.out
  have HBas := Lib.hid (show Basis p (m + 1) (redL p m rows u n) cc from hbas)
  have HPR := Lib.hid hpr
  obtain ⟨b0, off0, a0, c0, rfl, hc0, _⟩ := hx.2 0 hn
  rw [HLen.out 0 hn, Nat.add_zero] at hc0
  have HC0 := Lib.hid hc0
  clear hx hg hu hgu hbas hpr
  go_enter Try.func165, Try.ntmps165
  go_wp2_with (fail)
  clear hc0
  go_loopw [9, 23] (fun s i wr => ∃ (k g rc : Nat), k ≤ n ∧ i = .int .i64 k ∧ s = .slice (some ⟨g, 0, none⟩) k rc ∧ OwnR w.heap.size wr (some ⟨g, 0, none⟩) k rc (wideL rows u k) ∧ Ext w wr) (fun _ i _ => n - (intOf i).toNat)
  case atStart => exact ⟨0, _, _, Nat.zero_le _, rfl, rfl, ownR_empty w, ext_alloc _ _⟩
  case round =>
    obtain ⟨k, g, rc, hk, rfl, rfl, hown, hext⟩ := hrel
    have HOwn := Lib.hid hown
    have HExt := Lib.hid hext
    clear hown hext
    by_cases hlt : k < n
    · obtain ⟨b, off, ai, ci, hab, hc, hri⟩ := HX.out.2 k hlt
      cases hab
      rw [HLen.out k hlt] at hc hri
      obtain ⟨bi, oi, rfl⟩ := hri.addr hm
      obtain ⟨bu, ou, rfl, hcu⟩ := HU.out.2 k hlt
      have hc' := HExt.out.cell hc
      have HRi := Lib.hid (hri.ext (HExt.out.trans (ext_drew wr)))
      have HCu := Lib.hid ((HExt.out.trans (ext_drew wr)).cell hcu)
      clear hc hri hcu
      go_wp2_with (fail)
      clear hc'
      refine wp_region_lex_tail1 8 [(2, .ownS wr.drew.heap.size m (nthR rows k)), (7, .one (nth u k))] (.slice (some ⟨g, 0, none⟩) k rc) (by kernel_rfl) (by kernel_rfl) rfl rfl (fun w1 => by go_simp) ?_
      simp only [List.take, List.drop]
      simp only [Act.put, List.setIfInBounds_toArray, List.set_cons_zero, List.set_cons_succ]
      (refine LexW.pure (v := ?_) rfl rfl (fun w1 he => ?_) ?_; rotate_left; ( go_simp; rfl); simp only [Act.put, List.setIfInBounds_toArray, List.set_cons_zero, List.set_cons_succ])
      (refine LexW.callR (f := ?_) (args := ?_) rfl rfl (fun w1 => ?_) (fun w1 he hdep => ?_) (fun v hv => ?_); rotate_left 2; (go_simp; refine ⟨?_, ?_⟩ <;> rfl); ( refine (c_clone bi oi m ci (nthR rows k) w1 hm (by omega) (HRi.out.ext he)).mono ?_; rintro e w2 ⟨g2, rc2, rfl, ho, x2⟩; exact ⟨_, rfl, x2, g2, rc2, rfl, ho.mono he.size⟩); simp only [Act.put, List.setIfInBounds_toArray, List.set_cons_zero, List.set_cons_succ])
      obtain ⟨_, g30, c30, rfl, _⟩ := hv
      (refine LexW.pure (v := ?_) rfl rfl (fun w1 he => ?_) ?_; rotate_left; ( go_simp; rfl); simp only [Act.put, List.setIfInBounds_toArray, List.set_cons_zero, List.set_cons_succ])
      (refine LexW.pure (v := ?_) rfl rfl (fun w1 he => ?_) ?_; rotate_left; ( go_simp; rfl); simp only [Act.put, List.setIfInBounds_toArray, List.set_cons_zero, List.set_cons_succ])
      (refine LexW.pure (v := ?_) rfl rfl (fun w1 he => ?_) ?_; rotate_left; ( have e1 := he.cell HCu.out; go_simp; rfl); simp only [Act.put, List.setIfInBounds_toArray, List.set_cons_zero, List.set_cons_succ])
      (refine LexW.pure (v := ?_) rfl rfl (fun w1 he => ?_) ?_; rotate_left; ( have e1 := he.cell HCu.out; go_simp; rfl); simp only [Act.put, List.setIfInBounds_toArray, List.set_cons_zero, List.set_cons_succ])
      (refine LexW.rel rfl rfl (fun w1 he hdep => ?_) (fun v hv => ?_); ( exact ⟨.slice (some ⟨w1.heap.size, 0, none⟩) 1 1, w1.alloc (.cells #[.int .i64 (nth u k)] 2), (by go_simp), ext_alloc _ _, _, rfl, (by simp)⟩); simp only [Act.put, List.setIfInBounds_toArray, List.set_cons_zero, List.set_cons_succ])
      obtain ⟨_, g35, rfl, _⟩ := hv
      refine LexW.nil (fun w3 he hkn => ?_)
      obtain ⟨_, _, q30, r30⟩ : (SPred.ownS wr.drew.heap.size m (nthR rows k)).holds (.slice (some ⟨g30, 0, none⟩) m c30) w3 := hkn (2, _) (by simp)
      cases q30
      obtain ⟨_, q35, r35⟩ : (SPred.one (nth u k)).holds (.slice (some ⟨g35, 0, none⟩) 1 1) w3 := hkn (7, _) (by simp)
      cases q35
      have R30 := Lib.hid r30
      have R35 := Lib.hid r35
      have X3 := Lib.hid he
      clear he hkn r30 r35
      go_wp2_with (at_builtin; refine wpList_push rfl (.tmp 30) (.tmp 35) rfl rfl rfl (v := nth u k) R30.out R35.out (by omega) X3.out.size ?hk1)
      case hk1 =>
        intro g4 c4 w4 ho4 hg4 he4
        have HO4 := Lib.hid ho4
        have X4 := Lib.hid ((ext_drew wr).trans (he4 wr.drew (Nat.le_refl _) X3.out))
        clear ho4 hg4 he4
        go_wp2_with (at_builtin; refine wpList_pushR (w0 := wr) rfl (.tmp 28) (.tmp 37) rfl rfl rfl HOwn.out (X4.out.trans (ext_alloc _ _)) ((HO4.out.mono (ext_drew wr).size).ext (ext_alloc _ _)) ?hc (by omega) HExt.out.size ?hk2)
        case hc => exact cell_new _ _ rfl _ _
        case hk2 =>
          intro g5 c5 w5 ho5 hg5 he5
          have HO5 := Lib.hid ho5
          have HE5 := Lib.hid (he5 w (Nat.le_refl _) ((HExt.out.trans X4.out).alloc _))
          clear ho5 hg5 he5
          go_wp2_with (fail)
          refine strictQ_normal ?_
          go_wp2_with (fail)
          go_roundw
          case rel => exact ⟨k + 1, g5, c5, by omega, by go_num, rfl, by rw [wideL_succ]; exact HO5.out, HE5.out⟩
          case measure => simp [intOf]; omega
    · obtain rfl : k = n := by omega
      obtain ⟨w0, hmk, hown0, hext0⟩ := make_ints wr m (by omega)
      obtain ⟨gm, hgm⟩ : ∃ g, g = wr.heap.size := ⟨_, rfl⟩
      rw [← hgm] at hmk hown0
      have hgw : w.heap.size ≤ gm := by have := HExt.out.size'; omega
      have HM0 := Lib.hid (hown0.mono hgw)
      have hgm0 : gm < w0.heap.size := (hown0.base_of gm rfl).2
      have HE0 := Lib.hid (HExt.out.trans hext0)
      have HOw0 := Lib.hid (HOwn.out.ext hext0)
      clear hown0 hext0 hgm
      go_wp2_with (fail)
      refine (c_basis p (some ⟨g, 0, none⟩) k rc (m + 1) (wideL rows u k) w0 HPR.out (by omega) (by omega) (by omega) HOw0.out.rd HWG.out).mono ?_
      rintro e w6 ⟨gb, cb, r, rfl, hob, hxb⟩
      obtain rfl := hob.len
      have HOb := Lib.hid (show OwnR w0.heap.size w6 (some ⟨gb, 0, none⟩) (redL p m rows u k).length cb (redL p m rows u k) from hob)
      have HE6 := Lib.hid (HE0.out.trans hxb)
      have HM6 := Lib.hid (HM0.out.ext hxb)
      clear hob hxb hmk
      obtain ⟨red, hred⟩ : ∃ red, red = redL p m rows u k := ⟨_, rfl⟩
      have HRed := Lib.hid hred
      have hredb : basisL p (m + 1) (wideL rows u k) = red := hred.symm
      rw [hredb]
      rw [← hred] at HOb HBas
      clear hred hredb
      have hrl : red.length ≤ 4096 := by have := HBas.out.len; omega
      go_wp2_with (fail)
      go_loopw [46] (fun i wr => ∃ (j : Nat), j ≤ red.length ∧ i = .int .i64 j ∧ Hid (∀ t, t < j → cc t ≠ m) ∧ OwnC w.heap.size wr (some ⟨gm, 0, none⟩) m m (solS m red j) ∧ OwnR w0.heap.size wr (some ⟨gb, 0, none⟩) red.length cb red ∧ Ext w wr) (fun i _ => red.length - (intOf i).toNat)
      case atStart => exact ⟨0, Nat.zero_le _, rfl, Lib.hid (fun t ht => by omega), HM6.out, HOb.out, HE6.out⟩
      case round =>
        obtain ⟨j, hj, rfl, HT, hown, hownr, hext⟩ := hrel
        have HOu := Lib.hid hown
        have HOr := Lib.hid hownr
        have HEx := Lib.hid hext
        clear hown hownr hext
        by_cases hlt2 : j < red.length
        · obtain ⟨aj, cj, hcj, hoj⟩ := HOr.out.at hlt2
          have hjl := (HBas.out.good j hlt2).1
          have hlead := HBas.out.leadN hlt2
          have hcl := HBas.out.clt j hlt2
          rw [hjl] at hcj hoj
          have HOj := Lib.hid hoj
          obtain ⟨bj, oj, rfl, hcm⟩ := hoj.rd.2 m (by omega)
          have HLd := Lib.hid hlead
          have HCm := Lib.hid hcm
          clear hoj hjl hlead hcm
          go_wp2_with (fail)
          refine (c_lead (some ⟨bj, oj, none⟩) (m + 1) cj (nthR red j) wr (by omega) HOj.out.rd).mono ?_
          rintro e w7 ⟨rfl, h7⟩
          rw [HLd.out]
          have H7 := Lib.hid h7
          clear h7 hcj
          by_cases hcm : cc j = m
          · have hcb : ((cc j : Int) == (m : Int)) = true := by simp [hcm]
            have HF : Hid (okS m red = false) := Lib.hid (by
              cases h : okS m red
              · rfl
              · exact absurd hcm ((okS_iff HBas.out).1 h j hlt2))
            clear hcm
            go_wp2_with (fail)
            go_ret2
            have hr := HRed.out
            subst hr
            exact ⟨none, 0, by rw [solR, HF.out]; rfl, by rw [solR, HF.out]; exact own_nil _ _, HEx.out.trans H7.out⟩
          · have hcb : ((cc j : Int) == (m : Int)) = false := by simp; omega
            have hcm2 : cc j < m := by omega
            have hcr := H7.out.cell HCm.out
            have ho7 := HOu.out.ext H7.out
            have hcg := ho7.cell hcm2
            have hfz := ho7.frozen (cc j)
            have HO7 := Lib.hid ho7
            have HNe := Lib.hid hcm
            clear ho7 hcm
            go_wp2_with (fail)
            go_roundw
            case rel => exact ⟨j + 1, by omega, by go_num, Lib.hid (fun t ht => by
              by_cases htj : t = j
              · subst htj; exact HNe.out
              · exact HT.out t (by omega)), by (show OwnC _ _ _ _ _ ((solS m red j).set (leadN (nthR red j)) (nth (nthR red j) m))); rw [HLd.out]; exact HO7.out.store hcm2 _, (HOr.out.ext H7.out).other hgm0 _, (HEx.out.trans H7.out).setCell hgw _⟩
            case measure => simp [intOf]; omega
        · obtain rfl : j = red.length := by omega
          have HF : Hid (okS m red = true) := Lib.hid ((okS_iff HBas.out).2 fun i hi => HT.out i hi)
          have HSA := Lib.hid (solS_all (n := m) HBas.out)
          go_wp2_with (fail)
          go_ret2
          have hr := HRed.out
          subst hr
          exact ⟨_, _, by rw [solR, HF.out, if_pos rfl, solL_len']; rfl, by rw [solR, HF.out, if_pos rfl, solL_len', ← HSA.out]; exact HOu.out, HEx.out⟩

/-- The place of the first number other than 0, or -1. -/
def firstL (xs : List Int) : Int := if leadN xs = xs.length then -1 else (leadN xs : Int)
set_option maxHeartbeats 400000 in
theorem s_first (a : Option Addr) (n cap : Nat) (xs : List Int) (w : World) (hl : n ≤ 4194303) (hx : RdC w a n xs) :
    Calls Try.prog 198 #[.slice a n cap] w fun e w' => e = .returned (.int .i64 (firstL xs)) ∧ Ext w w' := by
  have HX := Lib.hid hx
  clear hx
  go_enter Try.func198, Try.ntmps198
  go_wp2_with (fail)
  go_loopw [3] (fun i wr => ∃ k : Nat, k ≤ n ∧ i = .int .i64 k ∧ Hid (∀ j, j < k → nth xs j = 0) ∧ Ext w wr) (fun i _ => n - (intOf i).toNat)
  case atStart => exact ⟨0, Nat.zero_le _, rfl, Lib.hid (fun j hj => by omega), Ext.refl _⟩
  case round =>
    obtain ⟨k, hk, rfl, HT, hext⟩ := hrel
    by_cases hlt : k < n
    · obtain ⟨b, off, rfl, hc⟩ := HX.out.2 k hlt
      have hc' := hext.cell hc
      clear hc
      by_cases hz : nth xs k = 0
      · have HZ := Lib.hid hz
        have hzb : (nth xs k != 0) = false := by simp [hz]
        clear hz
        go_wp2_with (fail)
        go_roundw
        case rel => exact ⟨k + 1, by omega, by go_num, Lib.hid (fun j hj => by
          by_cases hjk : j = k
          · subst hjk; exact HZ.out
          · exact HT.out j (by omega)), hext⟩
        case measure => simp [intOf]; omega
      · have HZ := Lib.hid hz
        have hzb : (nth xs k != 0) = true := by simp [hz]
        clear hz
        go_wp2_with (fail)
        go_ret
        exact ⟨ret_int (by unfold firstL; rw [leadN_eq (k := k) (by rw [HX.out.1]; omega) HT.out (.inr HZ.out), if_neg (by rw [HX.out.1]; omega)]), hext⟩
    · go_wp2_with (fail)
      go_ret
      exact ⟨ret_int (by unfold firstL; rw [leadN_eq (k := k) (by rw [HX.out.1]; omega) HT.out (.inl (by rw [HX.out.1]; omega)), if_pos (by rw [HX.out.1]; omega)]), hext⟩
theorem OwnRH.otherH {lo hi : Nat} {w : World} {a : Option Addr} {n cap : Nat} {rows : List (List Int)} (h : OwnRH lo hi w a n cap rows) {p : Addr} (hp : p.block < lo ∨ hi ≤ p.block) (v : Value) : OwnRH lo hi (w.setCell p v) a n cap rows := by
  have hb := h.low.base_of
  obtain ⟨h1, h0, vs, ⟨h2, h3⟩, hap, h4⟩ := h
  refine ⟨h1, h0, vs, ⟨h2, ?_⟩, hap, fun i hi => ?_⟩
  · rcases h3 with h3 | ⟨g, c, cur, hv, hb', hh, h5⟩
    · exact .inl h3
    · refine .inr ⟨g, c, cur, hv, hb', ?_, h5⟩
      simp only [Value.slice.injEq] at hv
      have := h0 g hv.1
      rw [Below.heap_setCell _ _ _ _ (by omega)]; exact hh
  · obtain ⟨ai, ci, h5, h6, h7⟩ := h4 i hi
    refine ⟨ai, ci, h5, h6.keep fun g hg => ?_, h7⟩
    have := h7 g hg
    have := (h6.base_of g hg).1
    exact Below.heap_setCell _ _ _ _ (by omega)
set_option maxHeartbeats 8000000 in
set_option maxRecDepth 100000 in
theorem s_solve (p : Int) (a : Option Addr) (n cap m : Nat) (rows : List (List Int)) (au : Option Addr) (cu : Nat) (u : List Int) (w : World) (hpr : primeB p = true) (hn : 0 < n) (hn2 : n ≤ 4095) (hm : 0 < m) (hm2 : m ≤ 4095) (hx : RdR w a n rows) (hg : RowsG p m rows) (hu : RdC w au n u) (hgu : Good p n u) :
    Calls Try.prog 167 #[.int .i64 p, .slice a n cap, .slice au n cu] w fun e w' => ∃ ra rc, e = .returned (.tuple #[.slice ra (solR m (redL p m rows u n)).length rc, .bool (okS m (redL p m rows u n))]) ∧ OwnC w.heap.size w' ra (solR m (redL p m rows u n)).length rc (solR m (redL p m rows u n)) ∧ Ext w w' := by
  have hpb := prime_bd hpr
  have HX := Lib.hid hx
  have HU := Lib.hid hu
  have HXL := Lib.hid hx.1
  have HLen := Lib.hid (show ∀ i, i < n → (nthR rows i).length = m from fun i hi => (hg i (by rw [hx.1]; exact hi)).1)
  have HWG := Lib.hid (wideL_good hg hgu (by rw [hx.1]; exact Nat.le_refl _))
  obtain ⟨cc, hbas⟩ := basis_red hpr HWG.out
  have HBas := Lib.hid (show Basis p (m + 1) (redL p m rows u n) cc from hbas)
  have HPR := Lib.hid hpr
  obtain ⟨b0, off0, a0, c0, rfl, hc0, _⟩ := hx.2 0 hn
  rw [HLen.out 0 hn, Nat.add_zero] at hc0
  have HC0 := Lib.hid hc0
  clear hx hg hu hgu hbas hpr
  go_enter Try.func167, Try.ntmps167
  go_wp2_with (fail)
  clear hc0
  go_loopw [8, 9] (fun s i wr => ∃ (k g rc : Nat), k ≤ n ∧ i = .int .i64 k ∧ s = .slice (some ⟨g, 0, none⟩) k rc ∧ OwnR w.heap.size wr (some ⟨g, 0, none⟩) k rc (wideL rows u k) ∧ Ext w wr) (fun _ i _ => n - (intOf i).toNat)
  case atStart => exact ⟨0, _, _, Nat.zero_le _, rfl, rfl, ownR_empty w, ext_alloc _ _⟩
  case round =>
    obtain ⟨k, g, rc, hk, rfl, rfl, hown, hext⟩ := hrel
    have HOwn := Lib.hid hown
    have HExt := Lib.hid hext
    clear hown hext
    by_cases hlt : k < n
    · obtain ⟨b, off, ai, ci, hab, hc, hri⟩ := HX.out.2 k hlt
      cases hab
      rw [HLen.out k hlt] at hc hri
      obtain ⟨bi, oi, rfl⟩ := hri.addr hm
      obtain ⟨bu, ou, rfl, hcu⟩ := HU.out.2 k hlt
      have HCc := Lib.hid ((HExt.out.trans (ext_drew wr)).cell hc)
      have HRi := Lib.hid (hri.ext (HExt.out.trans (ext_drew wr)))
      have HCu := Lib.hid ((HExt.out.trans (ext_drew wr)).cell hcu)
      clear hc hri hcu
      go_wp2_with (fail)
      refine wp_region_lex_tail1 11 [(5, .ownS wr.drew.heap.size m (nthR rows k)), (10, .one (nth u k))] (.slice (some ⟨g, 0, none⟩) k rc) (by kernel_rfl) (by kernel_rfl) rfl rfl (fun w1 => by go_simp) ?_
      simp only [List.take, List.drop]
      simp only [Act.put, List.setIfInBounds_toArray, List.set_cons_zero, List.set_cons_succ]
      (refine LexW.pure (v := ?_) rfl rfl (fun w1 he => ?_) ?_; rotate_left; ( go_simp; rfl); simp only [Act.put, List.setIfInBounds_toArray, List.set_cons_zero, List.set_cons_succ])
      (refine LexW.pure (v := ?_) rfl rfl (fun w1 he => ?_) ?_; rotate_left; ( go_simp; rfl); simp only [Act.put, List.setIfInBounds_toArray, List.set_cons_zero, List.set_cons_succ])
      (refine LexW.pure (v := ?_) rfl rfl (fun w1 he => ?_) ?_; rotate_left; ( have e1 := he.cell HCc.out; go_simp; rfl); simp only [Act.put, List.setIfInBounds_toArray, List.set_cons_zero, List.set_cons_succ])
      (refine LexW.pure (v := ?_) rfl rfl (fun w1 he => ?_) ?_; rotate_left; ( have e1 := he.cell HCc.out; go_simp; rfl); simp only [Act.put, List.setIfInBounds_toArray, List.set_cons_zero, List.set_cons_succ])
      (refine LexW.callR (f := ?_) (args := ?_) rfl rfl (fun w1 => ?_) (fun w1 he hdep => ?_) (fun v hv => ?_); rotate_left 2; (go_simp; refine ⟨?_, ?_⟩ <;> rfl); ( refine (s_own bi oi m ci (nthR rows k) w1 hm (by omega) (HRi.out.ext he)).mono ?_; rintro e w2 ⟨g2, rc2, rfl, ho, x2⟩; exact ⟨_, rfl, x2, g2, rc2, rfl, ho.mono he.size⟩); simp only [Act.put, List.setIfInBounds_toArray, List.set_cons_zero, List.set_cons_succ])
      obtain ⟨_, g26, c26, rfl, _⟩ := hv
      (refine LexW.pure (v := ?_) rfl rfl (fun w1 he => ?_) ?_; rotate_left; ( go_simp; rfl); simp only [Act.put, List.setIfInBounds_toArray, List.set_cons_zero, List.set_cons_succ])
      (refine LexW.pure (v := ?_) rfl rfl (fun w1 he => ?_) ?_; rotate_left; ( go_simp; rfl); simp only [Act.put, List.setIfInBounds_toArray, List.set_cons_zero, List.set_cons_succ])
      (refine LexW.pure (v := ?_) rfl rfl (fun w1 he => ?_) ?_; rotate_left; ( have e1 := he.cell HCu.out; go_simp; rfl); simp only [Act.put, List.setIfInBounds_toArray, List.set_cons_zero, List.set_cons_succ])
      (refine LexW.pure (v := ?_) rfl rfl (fun w1 he => ?_) ?_; rotate_left; ( have e1 := he.cell HCu.out; go_simp; rfl); simp only [Act.put, List.setIfInBounds_toArray, List.set_cons_zero, List.set_cons_succ])
      (refine LexW.rel rfl rfl (fun w1 he hdep => ?_) (fun v hv => ?_); ( exact ⟨.slice (some ⟨w1.heap.size, 0, none⟩) 1 1, w1.alloc (.cells #[.int .i64 (nth u k)] 2), (by go_simp), ext_alloc _ _, _, rfl, (by simp)⟩); simp only [Act.put, List.setIfInBounds_toArray, List.set_cons_zero, List.set_cons_succ])
      obtain ⟨_, g31, rfl, _⟩ := hv
      refine LexW.nil (fun w3 he hkn => ?_)
      obtain ⟨_, _, q26, r26⟩ : (SPred.ownS wr.drew.heap.size m (nthR rows k)).holds (.slice (some ⟨g26, 0, none⟩) m c26) w3 := hkn (5, _) (by simp)
      cases q26
      obtain ⟨_, q31, r31⟩ : (SPred.one (nth u k)).holds (.slice (some ⟨g31, 0, none⟩) 1 1) w3 := hkn (10, _) (by simp)
      cases q31
      have R26 := Lib.hid r26
      have R31 := Lib.hid r31
      have X3 := Lib.hid he
      clear he hkn r26 r31
      go_wp2_with (at_builtin; refine wpList_push rfl (.tmp 26) (.tmp 31) rfl rfl rfl (v := nth u k) R26.out R31.out (by omega) X3.out.size ?hk1)
      case hk1 =>
        intro g4 c4 w4 ho4 hg4 he4
        have HO4 := Lib.hid ho4
        have X4 := Lib.hid ((ext_drew wr).trans (he4 wr.drew (Nat.le_refl _) X3.out))
        clear ho4 hg4 he4
        go_wp2_with (at_builtin; refine wpList_pushR (w0 := wr) rfl (.tmp 21) (.tmp 33) rfl rfl rfl HOwn.out (X4.out.trans (ext_alloc _ _)) ((HO4.out.mono (ext_drew wr).size).ext (ext_alloc _ _)) ?hc (by omega) HExt.out.size ?hk2)
        case hc => exact cell_new _ _ rfl _ _
        case hk2 =>
          intro g5 c5 w5 ho5 hg5 he5
          have HO5 := Lib.hid ho5
          have HE5 := Lib.hid (he5 w (Nat.le_refl _) ((HExt.out.trans X4.out).alloc _))
          clear ho5 hg5 he5
          go_wp2_with (fail)
          refine strictQ_normal ?_
          go_wp2_with (fail)
          go_roundw
          case rel => exact ⟨k + 1, g5, c5, by omega, by go_num, rfl, by rw [wideL_succ]; exact HO5.out, HE5.out⟩
          case measure => simp [intOf]; omega
    · obtain rfl : k = n := by omega
      go_wp2_with (fail)
      refine (s_basis p (some ⟨g, 0, none⟩) k rc (m + 1) (wideL rows u k) wr HPR.out (by omega) (by omega) (by omega) HOwn.out.rd HWG.out).mono ?_
      rintro e w5 ⟨gb, cb, r, rfl, hob, hxb⟩
      obtain rfl := hob.len
      obtain ⟨w6, hmk, hown0, hext0⟩ := make_ints w5 m (by omega)
      obtain ⟨gm, hgm⟩ : ∃ g, g = w5.heap.size := ⟨_, rfl⟩
      rw [← hgm] at hmk hown0
      have hgw : w.heap.size ≤ gm := by have := (HExt.out.trans hxb).size'; omega
      have HM6 := Lib.hid (hown0.mono hgw)
      have HHi := Lib.hid (show OwnRH wr.heap.size w5.heap.size w5 (some ⟨gb, 0, none⟩) (redL p m rows u k).length cb (redL p m rows u k) from hob.high)
      have hgm0 : w5.heap.size ≤ gm := by omega
      have HOb := Lib.hid (HHi.out.ext hext0)
      have HE6 := Lib.hid ((HExt.out.trans hxb).trans hext0)
      have hc0 := (HExt.out.trans hxb).cell HC0.out
      clear hown0 hext0 hgm hob hxb
      obtain ⟨red, hred⟩ : ∃ red, red = redL p m rows u k := ⟨_, rfl⟩
      have HRed := Lib.hid hred
      have hredb : basisL p (m + 1) (wideL rows u k) = red := hred.symm
      rw [hredb]
      rw [← hred] at HOb HBas
      clear hred hredb
      have hrl : red.length ≤ 4096 := by have := HBas.out.len; omega
      go_wp2_with (fail)
      clear hc0 hmk
      obtain ⟨wo, rfl⟩ : ∃ wo : World, wo = wr := ⟨_, rfl⟩
      go_loopw [12] (fun i ws => ∃ (j : Nat), j ≤ red.length ∧ i = .int .i64 j ∧ Hid (∀ t, t < j → cc t ≠ m) ∧ OwnC w.heap.size ws (some ⟨gm, 0, none⟩) m m (solS m red j) ∧ OwnRH wo.heap.size w5.heap.size ws (some ⟨gb, 0, none⟩) red.length cb red ∧ Ext w ws) (fun i _ => red.length - (intOf i).toNat)
      case atStart => exact ⟨0, Nat.zero_le _, rfl, Lib.hid (fun t ht => by omega), HM6.out, HOb.out, HE6.out⟩
      case round =>
        obtain ⟨j, hj, rfl, HT, hown, hownr, hext⟩ := hrel
        have HOu := Lib.hid hown
        have HOr := Lib.hid hownr
        have HEx := Lib.hid hext
        clear hown hownr hext
        by_cases hlt2 : j < red.length
        · obtain ⟨aj, cj, hcj, hoj⟩ := HOr.out.low.at hlt2
          have hjl := (HBas.out.good j hlt2).1
          have hlead := HBas.out.leadN hlt2
          have hcl := HBas.out.clt j hlt2
          rw [hjl] at hcj hoj
          have HOj := Lib.hid hoj
          obtain ⟨bj, oj, rfl, hcm⟩ := hoj.rd.2 m (by omega)
          have HLd := Lib.hid hlead
          have HCm := Lib.hid hcm
          clear hoj hjl hlead hcm
          go_wp2_with (fail)
          refine (s_first (some ⟨bj, oj, none⟩) (m + 1) cj (nthR red j) wr (by omega) HOj.out.rd).mono ?_
          rintro e w7 ⟨rfl, h7⟩
          rw [show firstL (nthR red j) = (cc j : Int) by unfold firstL; rw [HLd.out, (HBas.out.good j hlt2).1, if_neg (by omega)]]
          have H7 := Lib.hid h7
          have hcj7 := h7.cell hcj
          clear h7 hcj
          by_cases hcm : cc j = m
          · have hcb : ((cc j : Int) == (m : Int)) = true := by simp [hcm]
            have HF : Hid (okS m red = false) := Lib.hid (by
              cases h : okS m red
              · rfl
              · exact absurd hcm ((okS_iff HBas.out).1 h j hlt2))
            clear hcm
            go_wp2_with (fail)
            go_ret2
            have hr := HRed.out
            subst hr
            exact ⟨none, 0, by rw [solR, HF.out]; rfl, by rw [solR, HF.out]; exact own_nil _ _, HEx.out.trans H7.out⟩
          · have hcb : ((cc j : Int) == (m : Int)) = false := by simp; omega
            have hcm2 : cc j < m := by omega
            have hcr := H7.out.cell HCm.out
            have ho7 := HOu.out.ext H7.out
            have hcg := ho7.cell hcm2
            have hfz := ho7.frozen (cc j)
            have HO7 := Lib.hid ho7
            have HNe := Lib.hid hcm
            clear ho7 hcm
            go_wp2_with (fail)
            go_roundw
            case rel => exact ⟨j + 1, by omega, by go_num, Lib.hid (fun t ht => by
              by_cases htj : t = j
              · subst htj; exact HNe.out
              · exact HT.out t (by omega)), by (show OwnC _ _ _ _ _ ((solS m red j).set (leadN (nthR red j)) (nth (nthR red j) m))); rw [HLd.out]; exact HO7.out.store hcm2 _, ((HOr.out.ext H7.out).otherH (Or.inr hgm0) _), (HEx.out.trans H7.out).setCell hgw _⟩
            case measure => simp [intOf]; omega
        · obtain rfl : j = red.length := by omega
          have HF : Hid (okS m red = true) := Lib.hid ((okS_iff HBas.out).2 fun i hi => HT.out i hi)
          have HSA := Lib.hid (solS_all (n := m) HBas.out)
          go_wp2_with (fail)
          go_ret2
          have hr := HRed.out
          subst hr
          exact ⟨_, _, by rw [solR, HF.out, if_pos rfl, solL_len']; rfl, by rw [solR, HF.out, if_pos rfl, solL_len', ← HSA.out]; exact HOu.out, HEx.out⟩

end Go.Proofs.Ytbgnfjckbjmgbaa

/-
  Inverses of multivectors from linear systems, in plain numbers.
  No condition. No program in sight.
-/
namespace Go.Proofs.Ytbgnfjckbjmgbaa
set_option maxRecDepth 100000
open Go.RowKit

theorem mul_blade {p : Int} {qs x : List Int} {i j : Nat} (hp : 1 ≤ p) (hi : i < 2 ^ qs.length) (hj : j < 2 ^ qs.length) :
    nth (prodL p qs tkA x (bladeL (2 ^ qs.length) j)) i = (nth x (i ^^^ j) * facZ qs (i ^^^ j) j qs.length) % p := by
  have hij := Nat.xor_lt_two_pow hi hj
  rw [prodA_nth hp hi, sumN_single hij (fun a ha hne => by
    have : ¬ j = a ^^^ i := fun h => hne (by rw [h, Nat.xor_comm a i, ← Nat.xor_assoc, Nat.xor_self, Nat.zero_xor])
    rw [bladeL_nth hj (Nat.xor_lt_two_pow ha hi), if_neg this]; simp)]
  have e : i ^^^ j ^^^ i = j := by rw [Nat.xor_comm i j, Nat.xor_assoc, Nat.xor_self, Nat.xor_zero]
  rw [e, bladeL_nth hj hj, if_pos rfl, Int.mul_one]
/-- The left matrix leads a multivector to the product. -/
theorem mat_dot {p : Int} {qs x y : List Int} {i : Nat} (hp : 1 ≤ p) (hd : qs.length ≤ 6) (hi : i < 2 ^ qs.length) :
    dotN (2 ^ qs.length) (nthR (matM p qs x true) i) y % p = nth (prodL p qs tkA x y) i := by
  unfold dotN matM
  rw [turnL_nth hi, prodA_nth hp hi, ← sumN_xor hd hi]
  refine sumN_emod fun m hm => ?_
  have him := Nat.xor_lt_two_pow hi hm
  rw [colL_nth him, colsM_nth him, mulC, if_pos rfl, mul_blade hp hi him]
  have e : i ^^^ (i ^^^ m) = m := by rw [← Nat.xor_assoc, Nat.xor_self, Nat.zero_xor]
  have e2 : m ^^^ i = i ^^^ m := Nat.xor_comm _ _
  rw [e, e2]
  have : nth x m * nth y (i ^^^ m) * facZ qs m (i ^^^ m) qs.length = nth x m * facZ qs m (i ^^^ m) qs.length * nth y (i ^^^ m) := by ac_rfl
  rw [this]
  exact mul_emod_congr (Int.emod_emod _ _) rfl

/-- The rows that tell whether a multivector has an inverse. -/
def invRed (p : Int) (qs x : List Int) : List (List Int) := redL p (2 ^ qs.length) (matM p qs x true) (bladeL (2 ^ qs.length) 0) (2 ^ qs.length)
def invOk (p : Int) (qs x : List Int) : Bool := okS (2 ^ qs.length) (invRed p qs x)
def invL (p : Int) (qs x : List Int) : List Int := solR (2 ^ qs.length) (invRed p qs x)
theorem inv_right {p : Int} {qs x : List Int} (hp : primeB p = true) (hd : qs.length ≤ 6) (h : invOk p qs x = true) :
    Good p (2 ^ qs.length) (invL p qs x) ∧ prodL p qs tkA x (invL p qs x) = bladeL (2 ^ qs.length) 0 := by
  have hpb := prime_bd hp
  have hN := pow_pos' qs.length
  have hML : (matM p qs x true).length = 2 ^ qs.length := matM_len _ _ _ _
  have hMG : RowsG p (2 ^ qs.length) (matM p qs x true) := matM_good (by omega)
  have hBG : Good p (matM p qs x true).length (bladeL (2 ^ qs.length) 0) := by rw [hML]; exact blade_good (by omega)
  have e : invL p qs x = solL (2 ^ qs.length) (basisL p (2 ^ qs.length + 1) (wideL (matM p qs x true) (bladeL (2 ^ qs.length) 0) (matM p qs x true).length)) := by
    unfold invL solR
    rw [show okS (2 ^ qs.length) (invRed p qs x) = true from h, if_pos rfl, hML]; rfl
  have hs := sol_spec (v := bladeL (2 ^ qs.length) 0) hp hMG hBG (by rw [hML]; exact h)
  rw [← e] at hs
  have hg : Good p (2 ^ qs.length) (invL p qs x) := by
    rw [e]
    obtain ⟨c, hb⟩ := basis_red hp (wideL_good hMG hBG (Nat.le_refl _))
    exact sol_good (by omega) hb.good
  refine ⟨hg, ext_nth (by rw [(prod_good (by omega)).1, bladeL_len]) fun i hi => ?_⟩
  rw [(prod_good (by omega)).1] at hi
  rw [← mat_dot (by omega) hd hi, hs i (by rw [hML]; exact hi)]
  have hb := (blade_good (p := p) (N := 2 ^ qs.length) (m := 0) (by omega)).2 i hi
  exact Int.emod_eq_of_lt hb.1 hb.2
theorem inv_left {p : Int} {qs x : List Int} (hp : primeB p = true) (hd : qs.length ≤ 6) (hx : Good p (2 ^ qs.length) x) (h : invOk p qs x = true) :
    prodL p qs tkA (invL p qs x) x = bladeL (2 ^ qs.length) 0 := by
  have hpb := prime_bd hp
  obtain ⟨h1, h2⟩ := inv_right hp hd h
  exact inv_both (by omega) hd hx h1 h2
theorem inv_iff {p : Int} {qs x y : List Int} (hp : primeB p = true) (hd : qs.length ≤ 6) (hy : Good p (2 ^ qs.length) y) (h : prodL p qs tkA x y = bladeL (2 ^ qs.length) 0) : invOk p qs x = true := by
  have hpb := prime_bd hp
  have hML : (matM p qs x true).length = 2 ^ qs.length := matM_len _ _ _ _
  have hMG : RowsG p (2 ^ qs.length) (matM p qs x true) := matM_good (by omega)
  have hBG : Good p (matM p qs x true).length (bladeL (2 ^ qs.length) 0) := by rw [hML]; exact blade_good (by omega)
  have := sol_exists hp hMG hBG hy.1 (fun i hi => by
    rw [hML] at hi
    rw [mat_dot (by omega) hd hi, h]
    have hb := (blade_good (p := p) (N := 2 ^ qs.length) (m := 0) (by omega)).2 i hi
    exact (Int.emod_eq_of_lt hb.1 hb.2).symm)
  rw [hML] at this
  exact this

/-- A tuple of a slice of the call's own and a bool. -/
def SPred.sol (B n : Nat) (xs : List Int) (b : Bool) : SPred := ⟨fun v w => ∃ ra rc, v = .tuple #[.slice ra n rc, .bool b] ∧ OwnC B w ra n rc xs, fun _ _ _ ⟨ra, rc, hv, h⟩ he => ⟨ra, rc, hv, h.ext he⟩⟩

end Go.Proofs.Ytbgnfjckbjmgbaa

/-
  Inverses of multivectors.
  No condition.
-/
namespace Go.Proofs.Ytbgnfjckbjmgbaa
set_option maxRecDepth 100000
open Go.RowKit

set_option maxHeartbeats 8000000 in
set_option maxRecDepth 100000 in
theorem c_inverse {N d : Nat} (hN : N = 2 ^ d) (p : Int) (a : Option Addr) (cap : Nat) (qs : List Int) (ax : Option Addr) (cx : Nat) (x : List Int) (w : World) (hd : d ≤ 6) (hpr : primeB p = true) (hq : RdC w a d qs) (hqb : isB p qs = true) (hx : RdC w ax N x) (hgx : Good p N x) :
    Calls Try.prog 104 #[.agg #[.int .i64 p, .slice a d cap], .slice ax N cx] w fun e w' => ∃ ra rc, e = .returned (.tuple #[.slice ra (invL p qs x).length rc, .bool (invOk p qs x)]) ∧ OwnC w.heap.size w' ra (invL p qs x).length rc (invL p qs x) ∧ Ext w w' := by
  have hpb := prime_bd hpr
  have hN64 : N ≤ 64 := by rw [hN]; exact pow_le64 hd
  have hN1 : 0 < N := by rw [hN]; exact pow_pos' d
  have HN := Lib.hid hN
  have HPR := Lib.hid hpr
  have HX := Lib.hid hx
  have HQ := Lib.hid hq
  have HQB := Lib.hid hqb
  have HGX := Lib.hid hgx
  have HD := Lib.hid (show N = 2 ^ qs.length by rw [hq.1]; exact hN)
  have HIV : Hid (invL p qs x = solR N (redL p N (turnL (colsM p qs x true N) N N) (bladeL N 0) N) ∧ invOk p qs x = okS N (redL p N (turnL (colsM p qs x true N) N N) (bladeL N 0) N)) := Lib.hid (by unfold invL invOk invRed matM; rw [HD.out]; exact ⟨rfl, rfl⟩)
  have HTG : Hid (RowsG p N (turnL (colsM p qs x true N) N N)) := Lib.hid (by have := matM_good (qs := qs) (x := x) (left := true) (show 1 ≤ p by omega); unfold matM at this; rw [HD.out]; exact this)
  clear hN hx hq hqb hgx hpr
  obtain ⟨W, hW⟩ : ∃ W, W = w.alloc (.cells #[.int .i64 p, .slice a d cap] 26) := ⟨_, rfl⟩
  have gW : Ext w W := by rw [hW]; exact ext_alloc _ _
  have hs0 : W.cell? ⟨w.heap.size, 0, none⟩ = some (.int .i64 p) := by rw [hW]; simp
  have hs1 : W.cell? ⟨w.heap.size, 1, none⟩ = some (.slice a d cap) := by rw [hW]; simp
  have HS0 := Lib.hid (hs0)
  have HS1 := Lib.hid (hs1)
  have GW := Lib.hid (gW)
  have HW := Lib.hid hW
  clear hs0 hs1 gW hW
  go_enter Try.func104, Try.ntmps104
  go_wp2_with (fail)
  rw [← HW.out]
  have hz : w.heap.size + 1 = W.heap.size := by rw [HW.out]; simp
  have HZ := Lib.hid hz
  clear hz
  go_wp2_with (fail)
  go_loopw [6, 11] (fun s i wr => ∃ (k g rc : Nat), k ≤ N ∧ i = .int .i64 k ∧ s = .slice (some ⟨g, 0, none⟩) k rc ∧ OwnR W.heap.size wr (some ⟨g, 0, none⟩) k rc (colsM p qs x true k) ∧ Ext W wr) (fun _ i _ => N - (intOf i).toNat)
  case atStart => exact ⟨0, _, _, Nat.zero_le _, rfl, rfl, by have h := ownR_empty W; rw [HZ.out]; exact h, ext_alloc _ _⟩
  case round =>
    obtain ⟨k, g, rc, hk, rfl, rfl, hown, hext⟩ := hrel
    have HOwn := Lib.hid hown
    have HExt := Lib.hid hext
    clear hown hext
    have GX := Lib.hid (GW.out.trans (HExt.out.trans (ext_drew wr)))
    have HT0 := Lib.hid ((HExt.out.trans (ext_drew wr)).cell HS0.out)
    have HT1 := Lib.hid ((HExt.out.trans (ext_drew wr)).cell HS1.out)
    by_cases hlt : k < N
    · have HGB := Lib.hid (show Good p N (bladeL N k) from blade_good (by omega))
      go_wp2_with (fail)
      refine wp_region_lex_tail1 8 [(5, .ownG wr.drew.heap.size N (bladeL N k)), (6, .rows 2 [x, bladeL N k]), (7, .ownG wr.drew.heap.size N (timesL p qs [x, bladeL N k]))] (.slice (some ⟨g, 0, none⟩) k rc) (by kernel_rfl) (by kernel_rfl) rfl rfl (fun w1 => by go_simp) ?_
      simp only [List.take, List.drop]
      simp only [Act.put, List.setIfInBounds_toArray, List.set_cons_zero, List.set_cons_succ]
      (refine LexW.pure (v := ?_) rfl rfl (fun w1 he => ?_) ?_; rotate_left; ( have e1 := he.cell HT0.out; have e2 := he.cell HT1.out; go_simp; rfl); simp only [Act.put, List.setIfInBounds_toArray, List.set_cons_zero, List.set_cons_succ])
      (refine LexW.pure (v := ?_) rfl rfl (fun w1 he => ?_) ?_; rotate_left; ( have e1 := he.cell HT0.out; have e2 := he.cell HT1.out; go_simp; rfl); simp only [Act.put, List.setIfInBounds_toArray, List.set_cons_zero, List.set_cons_succ])
      (refine LexW.pure (v := ?_) rfl rfl (fun w1 he => ?_) ?_; rotate_left; ( have e1 := he.cell HT0.out; have e2 := he.cell HT1.out; go_simp; rfl); simp only [Act.put, List.setIfInBounds_toArray, List.set_cons_zero, List.set_cons_succ])
      (refine LexW.pure (v := ?_) rfl rfl (fun w1 he => ?_) ?_; rotate_left; ( have e1 := he.cell HT0.out; have e2 := he.cell HT1.out; go_simp; rfl); simp only [Act.put, List.setIfInBounds_toArray, List.set_cons_zero, List.set_cons_succ])
      (refine LexW.callR (f := ?_) (args := ?_) rfl rfl (fun w1 => ?_) (fun w1 he hdep => ?_) (fun v hv => ?_); rotate_left 2; (go_simp; refine ⟨?_, ?_⟩ <;> rfl); ( refine (c_bladeN HN.out p a cap k w1 hd hlt).mono ?_; rintro e w2 ⟨g, rfl, ho, g2⟩; exact ⟨_, rfl, g2, g, rfl, ho.mono he.size⟩); simp only [Act.put, List.setIfInBounds_toArray, List.set_cons_zero, List.set_cons_succ])
      obtain ⟨_, g19, rfl, _⟩ := hv
      (refine LexW.rel rfl rfl (fun w1 he hdep => ?_) (fun v hv => ?_); ( obtain ⟨_, q19, r19⟩ : (SPred.ownG wr.drew.heap.size N (bladeL N k)).holds (.slice (some ⟨g19, 0, none⟩) N N) w1 := hdep (5, 19) (by decide +kernel); cases q19; exact ⟨.slice (some ⟨w1.heap.size, 0, none⟩) 2 2, w1.alloc (.cells #[.slice ax N cx, .slice (some ⟨g19, 0, none⟩) N N] 24), (by go_simp), ext_alloc _ _, _, rfl, rdR_two (a := ax) (b := (some ⟨g19, 0, none⟩)) (n := N) (m := N) (ca := cx) (cb := N) (by simp) (by simp) ((HX.out.ext (GX.out.trans he)).ext (ext_alloc _ _)) ((r19.rd).ext (ext_alloc _ _))⟩); simp only [Act.put, List.setIfInBounds_toArray, List.set_cons_zero, List.set_cons_succ])
      obtain ⟨_, g20, rfl, _⟩ := hv
      (refine LexW.callR (f := ?_) (args := ?_) rfl rfl (fun w1 => ?_) (fun w1 he hdep => ?_) (fun v hv => ?_); rotate_left 2; (go_simp; refine ⟨?_, ?_⟩ <;> rfl); ( obtain ⟨_, q20, r20⟩ : (SPred.rows 2 [x, bladeL N k]).holds (.slice (some ⟨g20, 0, none⟩) 2 2) w1 := hdep (6, 20) (by decide +kernel); cases q20; refine (c_timesN HN.out p a cap qs _ 2 _ [x, bladeL N k] w1 hd (by omega) (by omega) (by omega) (HQ.out.ext (GX.out.trans he)) HQB.out r20 (good_two HGX.out HGB.out)).mono ?_; rintro e w2 ⟨g, rfl, ho, g2⟩; exact ⟨_, rfl, g2, g, rfl, ho.mono he.size⟩); simp only [Act.put, List.setIfInBounds_toArray, List.set_cons_zero, List.set_cons_succ])
      obtain ⟨_, g21, rfl, _⟩ := hv
      refine LexW.nil (fun w3 he hkn => ?_)
      obtain ⟨_, q21, r21⟩ : (SPred.ownG wr.drew.heap.size N (timesL p qs [x, bladeL N k])).holds (.slice (some ⟨g21, 0, none⟩) N N) w3 := hkn (7, _) (by simp)
      cases q21
      have R21 := Lib.hid r21
      have HE := Lib.hid (GX.out.trans he)
      have X3 := Lib.hid ((ext_drew wr).trans he)
      clear he hkn r21
      have HO21 : Hid (OwnC wr.heap.size w3 (some ⟨g21, 0, none⟩) N N (mulC p qs x true k)) := Lib.hid (by
        have h := R21.out.mono (B' := wr.heap.size) (ext_drew wr).size
        rw [prod_two HD.out (by omega) HGX.out] at h
        rw [mulC, if_pos rfl, ← HD.out]; exact h)
      go_wp2_with (at_builtin; refine wpList_pushR (w0 := wr) rfl (.tmp 14) (.tmp 22) rfl rfl rfl HOwn.out (X3.out.trans (ext_alloc _ _)) (HO21.out.ext (ext_alloc _ _)) ?hc (by omega) HExt.out.size ?hk)
      case hc => exact cell_new _ _ rfl _ _
      case hk =>
        intro g5 c5 w5 ho5 hg5 he5
        have HO5 := Lib.hid ho5
        have HE5 := Lib.hid (he5 W (Nat.le_refl _) ((HExt.out.trans X3.out).alloc _))
        clear ho5 hg5 he5
        go_wp2_with (fail)
        refine strictQ_normal ?_
        go_wp2_with (fail)
        go_roundw
        case rel => exact ⟨k + 1, g5, c5, by omega, by go_num, rfl, by rw [colsM_succ]; exact HO5.out, HE5.out⟩
        case measure => simp [intOf]; omega
    · obtain rfl : N = k := by omega
      go_wp2_with (fail)
      refine wp_region_lex [(1, .val (.int .i64 p)), (3, .ownR w.heap.size N (turnL (colsM p qs x true N) N N)), (5, .ownG w.heap.size N (bladeL N 0)), (6, .sol w.heap.size ((solR N (redL p N (turnL (colsM p qs x true N) N N) (bladeL N 0) N)).length) (solR N (redL p N (turnL (colsM p qs x true N) N N) (bladeL N 0) N)) (okS N (redL p N (turnL (colsM p qs x true N) N N) (bladeL N 0) N)))] (by kernel_rfl) (by kernel_rfl) ?_
      (refine LexW.pure (v := ?_) rfl rfl (fun w1 he => ?_) ?_; rotate_left; ( have e1 := he.cell HT0.out; have e2 := he.cell HT1.out; go_simp; rfl); simp only [Act.put, List.setIfInBounds_toArray, List.set_cons_zero, List.set_cons_succ])
      (refine LexW.call (f := ?_) (args := ?_) rfl rfl (fun w1 => ?_) (fun w1 he hdep => ?_) ?_; rotate_left 2; (go_simp; refine ⟨?_, ?_⟩ <;> rfl); ( exact c_field p _ w1); simp only [Act.put, List.setIfInBounds_toArray, List.set_cons_zero, List.set_cons_succ])
      (refine LexW.pure (v := ?_) rfl rfl (fun w1 he => ?_) ?_; rotate_left; ( have e1 := he.cell HT0.out; have e2 := he.cell HT1.out; go_simp; rfl); simp only [Act.put, List.setIfInBounds_toArray, List.set_cons_zero, List.set_cons_succ])
      (refine LexW.callR (f := ?_) (args := ?_) rfl rfl (fun w1 => ?_) (fun w1 he hdep => ?_) (fun v hv => ?_); rotate_left 2; (go_simp; refine ⟨?_, ?_⟩ <;> rfl); ( refine (c_transpose _ N rc N (colsM p qs x true N) w1 hN1 (by omega) (by omega) (fun i hi => by rw [colsM_nth hi, (mulC_good (by omega)).1, ← HD.out]) (HOwn.out.rd.ext ((ext_drew wr).trans he))).mono ?_; rintro e w2 ⟨g, rc, rfl, ho, g2⟩; exact ⟨_, rfl, g2, g, rc, rfl, ho.mono (Nat.le_trans GX.out.size he.size)⟩); simp only [Act.put, List.setIfInBounds_toArray, List.set_cons_zero, List.set_cons_succ])
      obtain ⟨_, g28, c28, rfl, _⟩ := hv
      (refine LexW.pure (v := ?_) rfl rfl (fun w1 he => ?_) ?_; rotate_left; ( have e1 := he.cell HT0.out; have e2 := he.cell HT1.out; go_simp; rfl); simp only [Act.put, List.setIfInBounds_toArray, List.set_cons_zero, List.set_cons_succ])
      (refine LexW.callR (f := ?_) (args := ?_) rfl rfl (fun w1 => ?_) (fun w1 he hdep => ?_) (fun v hv => ?_); rotate_left 2; (go_simp; refine ⟨?_, ?_⟩ <;> rfl); ( refine (c_oneN HN.out p a cap w1 hd).mono ?_; rintro e w2 ⟨g, rfl, ho, g2⟩; exact ⟨_, rfl, g2, g, rfl, ho.mono (Nat.le_trans GX.out.size he.size)⟩); simp only [Act.put, List.setIfInBounds_toArray, List.set_cons_zero, List.set_cons_succ])
      obtain ⟨_, g30, rfl, _⟩ := hv
      (refine LexW.callR (f := ?_) (args := ?_) rfl rfl (fun w1 => ?_) (fun w1 he hdep => ?_) (fun v hv => ?_); rotate_left 2; (go_simp; refine ⟨?_, ?_⟩ <;> rfl); ( obtain ⟨_, _, q28, r28⟩ : (SPred.ownR w.heap.size N (turnL (colsM p qs x true N) N N)).holds (.slice (some ⟨g28, 0, none⟩) N c28) w1 := hdep (3, 28) (by decide +kernel); cases q28; obtain ⟨_, q30, r30⟩ : (SPred.ownG w.heap.size N (bladeL N 0)).holds (.slice (some ⟨g30, 0, none⟩) N N) w1 := hdep (5, 30) (by decide +kernel); cases q30; refine (c_solve p _ N _ N (turnL (colsM p qs x true N) N N) _ N (bladeL N 0) w1 HPR.out hN1 (by omega) hN1 (by omega) r28.rd HTG.out r30.rd (blade_good (by omega))).mono ?_; rintro e w2 ⟨ra, rc, rfl, ho, g2⟩; exact ⟨_, rfl, g2, ra, rc, rfl, ho.mono (Nat.le_trans GX.out.size he.size)⟩); simp only [Act.put, List.setIfInBounds_toArray, List.set_cons_zero, List.set_cons_succ])
      obtain ⟨_, ra31, c31, rfl, _⟩ := hv
      (refine LexW.pure (v := ?_) rfl rfl (fun w1 he => ?_) ?_; rotate_left; ( have e1 := he.cell HT0.out; have e2 := he.cell HT1.out; go_simp; rfl); simp only [Act.put, List.setIfInBounds_toArray, List.set_cons_zero, List.set_cons_succ])
      (refine LexW.pure (v := ?_) rfl rfl (fun w1 he => ?_) ?_; rotate_left; ( have e1 := he.cell HT0.out; have e2 := he.cell HT1.out; go_simp; rfl); simp only [Act.put, List.setIfInBounds_toArray, List.set_cons_zero, List.set_cons_succ])
      (refine LexW.pure (v := ?_) rfl rfl (fun w1 he => ?_) ?_; rotate_left; ( have e1 := he.cell HT0.out; have e2 := he.cell HT1.out; go_simp; rfl); simp only [Act.put, List.setIfInBounds_toArray, List.set_cons_zero, List.set_cons_succ])
      (refine LexW.pure (v := ?_) rfl rfl (fun w1 he => ?_) ?_; rotate_left; ( have e1 := he.cell HT0.out; have e2 := he.cell HT1.out; go_simp; rfl); simp only [Act.put, List.setIfInBounds_toArray, List.set_cons_zero, List.set_cons_succ])
      refine LexW.nil (fun w3 he hkn => ?_)
      obtain ⟨_, _, q31, r31⟩ : (SPred.sol w.heap.size ((solR N (redL p N (turnL (colsM p qs x true N) N N) (bladeL N 0) N)).length) (solR N (redL p N (turnL (colsM p qs x true N) N N) (bladeL N 0) N)) (okS N (redL p N (turnL (colsM p qs x true N) N N) (bladeL N 0) N))).holds (.tuple #[.slice ra31 ((solR N (redL p N (turnL (colsM p qs x true N) N N) (bladeL N 0) N)).length) c31, .bool (okS N (redL p N (turnL (colsM p qs x true N) N N) (bladeL N 0) N))]) w3 := hkn (6, _) (by simp)
      cases q31
      have R31 := Lib.hid r31
      have HE := Lib.hid (GX.out.trans he)
      clear he hkn r31
      go_wp2_with (fail)
      go_ret2
      exact ⟨_, _, by rw [HIV.out.1, HIV.out.2]; rfl, by rw [HIV.out.1]; exact R31.out, HE.out⟩

set_option maxHeartbeats 8000000 in
set_option maxRecDepth 100000 in
theorem s_inverse {N d : Nat} (hN : N = 2 ^ d) (p : Int) (a : Option Addr) (cap : Nat) (qs : List Int) (ax : Option Addr) (cx : Nat) (x : List Int) (w : World) (hd : d ≤ 6) (hpr : primeB p = true) (hq : RdC w a d qs) (hqb : isB p qs = true) (hx : RdC w ax N x) (hgx : Good p N x) :
    Calls Try.prog 105 #[.agg #[.int .i64 p, .slice a d cap], .slice ax N cx] w fun e w' => ∃ ra rc, e = .returned (.tuple #[.slice ra (invL p qs x).length rc, .bool (invOk p qs x)]) ∧ OwnC w.heap.size w' ra (invL p qs x).length rc (invL p qs x) ∧ Ext w w' := by
  have hdq := hq.1
  have hpb := prime_bd hpr
  have hN64 : N ≤ 64 := by rw [hN]; exact pow_le64 hd
  have hN1 : 0 < N := by rw [hN]; exact pow_pos' d
  have HN := Lib.hid hN
  have HPR := Lib.hid hpr
  have HX := Lib.hid hx
  have HQ := Lib.hid hq
  have HQB := Lib.hid hqb
  have HGX := Lib.hid hgx
  have HD := Lib.hid (show N = 2 ^ qs.length by rw [hq.1]; exact hN)
  have HIV : Hid (invL p qs x = solR N (redL p N (turnL (colsM p qs x true N) N N) (bladeL N 0) N) ∧ invOk p qs x = okS N (redL p N (turnL (colsM p qs x true N) N N) (bladeL N 0) N)) := Lib.hid (by unfold invL invOk invRed matM; rw [HD.out]; exact ⟨rfl, rfl⟩)
  have HTG : Hid (RowsG p N (turnL (colsM p qs x true N) N N)) := Lib.hid (by have := matM_good (qs := qs) (x := x) (left := true) (show 1 ≤ p by omega); unfold matM at this; rw [HD.out]; exact this)
  clear hN hx hq hqb hgx hpr
  have HMG : Hid (RowsG p N (matM p qs x true)) := Lib.hid (by rw [HD.out]; exact matM_good (by omega))
  have HSol : Hid (∀ (am : Option Addr) (cm : Nat) (au : Option Addr) (cu : Nat) (w1 : World), RdR w1 am N (matM p qs x true) → RdC w1 au N (bladeL N 0) →
      Calls Try.prog 167 #[.int .i64 p, .slice am N cm, .slice au N cu] w1 fun e w' => ∃ ra rc, e = .returned (.tuple #[.slice ra (invL p qs x).length rc, .bool (invOk p qs x)]) ∧ OwnC w1.heap.size w' ra (invL p qs x).length rc (invL p qs x) ∧ Ext w1 w') := Lib.hid (fun am cm au cu w1 h1 h2 => by
    have h := s_solve p am N cm N (matM p qs x true) au cu (bladeL N 0) w1 HPR.out hN1 (by omega) hN1 (by omega) h1 HMG.out h2 (blade_good (by omega))
    have e1 : invL p qs x = solR N (redL p N (matM p qs x true) (bladeL N 0) N) := by unfold invL invRed; rw [HD.out]
    have e2 : invOk p qs x = okS N (redL p N (matM p qs x true) (bladeL N 0) N) := by unfold invOk invRed; rw [HD.out]
    rw [e1, e2]; exact h)
  obtain ⟨ok, hok⟩ : ∃ ok, ok = invOk p qs x := ⟨_, rfl⟩
  have HOk := Lib.hid hok
  rw [← hok] at HSol ⊢
  clear hok
  obtain ⟨W, hW⟩ : ∃ W, W = w.alloc (.cells #[.int .i64 p, .slice a d cap] 26) := ⟨_, rfl⟩
  have gW : Ext w W := by rw [hW]; exact ext_alloc _ _
  have hs0 : W.cell? ⟨w.heap.size, 0, none⟩ = some (.int .i64 p) := by rw [hW]; simp
  have hs1 : W.cell? ⟨w.heap.size, 1, none⟩ = some (.slice a d cap) := by rw [hW]; simp
  have HS0 := Lib.hid ((ext_drew _).cell hs0)
  have HS1 := Lib.hid ((ext_drew _).cell hs1)
  have GW := Lib.hid (gW.trans (ext_drew _))
  have HW := Lib.hid hW
  clear hs0 hs1 gW hW
  go_enter Try.func105, Try.ntmps105
  go_wp2_with (fail)
  rw [← HW.out]
  refine wp_region_lex [(4, .ownR w.heap.size N (matM p qs x true)), (6, .ownG w.heap.size N (bladeL N 0)), (7, .sol w.heap.size ((invL p qs x).length) (invL p qs x) ok)] (by kernel_rfl) (by kernel_rfl) ?_
  (refine LexW.pure (v := ?_) rfl rfl (fun w1 he => ?_) ?_; rotate_left; ( have e1 := he.cell HS0.out; have e2 := he.cell HS1.out; go_simp; rfl); simp only [Act.put, List.setIfInBounds_toArray, List.set_cons_zero, List.set_cons_succ])
  (refine LexW.pure (v := ?_) rfl rfl (fun w1 he => ?_) ?_; rotate_left; ( have e1 := he.cell HS0.out; have e2 := he.cell HS1.out; go_simp; rfl); simp only [Act.put, List.setIfInBounds_toArray, List.set_cons_zero, List.set_cons_succ])
  (refine LexW.pure (v := ?_) rfl rfl (fun w1 he => ?_) ?_; rotate_left; ( have e1 := he.cell HS0.out; have e2 := he.cell HS1.out; go_simp; rfl); simp only [Act.put, List.setIfInBounds_toArray, List.set_cons_zero, List.set_cons_succ])
  (refine LexW.pure (v := ?_) rfl rfl (fun w1 he => ?_) ?_; rotate_left; ( have e1 := he.cell HS0.out; have e2 := he.cell HS1.out; go_simp; rfl); simp only [Act.put, List.setIfInBounds_toArray, List.set_cons_zero, List.set_cons_succ])
  (refine LexW.callR (f := ?_) (args := ?_) rfl rfl (fun w1 => ?_) (fun w1 he hdep => ?_) (fun v hv => ?_); rotate_left 2; (go_simp; refine ⟨?_, ?_⟩ <;> rfl); ( refine (s_leftMatrix HN.out p a cap qs ax cx x w1 hd (by omega) (by omega) (HQ.out.ext (GW.out.trans he)) HQB.out (HX.out.ext (GW.out.trans he)) HGX.out).mono ?_; rintro e w2 ⟨g, rc, rfl, ho, g2⟩; exact ⟨_, rfl, g2, g, rc, rfl, ho.mono (Nat.le_trans GW.out.size he.size)⟩); simp only [Act.put, List.setIfInBounds_toArray, List.set_cons_zero, List.set_cons_succ])
  obtain ⟨_, g13, c13, rfl, _⟩ := hv
  (refine LexW.pure (v := ?_) rfl rfl (fun w1 he => ?_) ?_; rotate_left; ( have e1 := he.cell HS0.out; have e2 := he.cell HS1.out; go_simp; rfl); simp only [Act.put, List.setIfInBounds_toArray, List.set_cons_zero, List.set_cons_succ])
  (refine LexW.callR (f := ?_) (args := ?_) rfl rfl (fun w1 => ?_) (fun w1 he hdep => ?_) (fun v hv => ?_); rotate_left 2; (go_simp; refine ⟨?_, ?_⟩ <;> rfl); ( refine (s_oneN HN.out p a cap w1 hd).mono ?_; rintro e w2 ⟨g, rfl, ho, g2⟩; exact ⟨_, rfl, g2, g, rfl, ho.mono (Nat.le_trans GW.out.size he.size)⟩); simp only [Act.put, List.setIfInBounds_toArray, List.set_cons_zero, List.set_cons_succ])
  obtain ⟨_, g15, rfl, _⟩ := hv
  (refine LexW.callR (f := ?_) (args := ?_) rfl rfl (fun w1 => ?_) (fun w1 he hdep => ?_) (fun v hv => ?_); rotate_left 2; (go_simp; refine ⟨?_, ?_⟩ <;> rfl); ( obtain ⟨_, _, q13, r13⟩ : (SPred.ownR w.heap.size N (matM p qs x true)).holds (.slice (some ⟨g13, 0, none⟩) N c13) w1 := hdep (4, 13) (by decide +kernel); cases q13; obtain ⟨_, q15, r15⟩ : (SPred.ownG w.heap.size N (bladeL N 0)).holds (.slice (some ⟨g15, 0, none⟩) N N) w1 := hdep (6, 15) (by decide +kernel); cases q15; refine (HSol.out _ _ _ _ w1 r13.rd r15.rd).mono ?_; rintro e w2 ⟨ra, rc, rfl, ho, g2⟩; exact ⟨_, rfl, g2, ra, rc, rfl, ho.mono (Nat.le_trans GW.out.size he.size)⟩); simp only [Act.put, List.setIfInBounds_toArray, List.set_cons_zero, List.set_cons_succ])
  obtain ⟨_, ra16, c16, rfl, _⟩ := hv
  (refine LexW.pure (v := ?_) rfl rfl (fun w1 he => ?_) ?_; rotate_left; ( have e1 := he.cell HS0.out; have e2 := he.cell HS1.out; go_simp; rfl); simp only [Act.put, List.setIfInBounds_toArray, List.set_cons_zero, List.set_cons_succ])
  (refine LexW.pure (v := ?_) rfl rfl (fun w1 he => ?_) ?_; rotate_left; ( have e1 := he.cell HS0.out; have e2 := he.cell HS1.out; go_simp; rfl); simp only [Act.put, List.setIfInBounds_toArray, List.set_cons_zero, List.set_cons_succ])
  (refine LexW.pure (v := ?_) rfl rfl (fun w1 he => ?_) ?_; rotate_left; ( have e1 := he.cell HS0.out; have e2 := he.cell HS1.out; go_simp; rfl); simp only [Act.put, List.setIfInBounds_toArray, List.set_cons_zero, List.set_cons_succ])
  (refine LexW.pure (v := ?_) rfl rfl (fun w1 he => ?_) ?_; rotate_left; ( have e1 := he.cell HS0.out; have e2 := he.cell HS1.out; go_simp; rfl); simp only [Act.put, List.setIfInBounds_toArray, List.set_cons_zero, List.set_cons_succ])
  (refine LexW.pure (v := ?_) rfl rfl (fun w1 he => ?_) ?_; rotate_left; ( have e1 := he.cell HS0.out; have e2 := he.cell HS1.out; go_simp; rfl); simp only [Act.put, List.setIfInBounds_toArray, List.set_cons_zero, List.set_cons_succ])
  refine LexW.nil (fun w3 he hkn => ?_)
  obtain ⟨_, _, q16, r16⟩ : (SPred.sol w.heap.size ((invL p qs x).length) (invL p qs x) ok).holds (.tuple #[.slice ra16 ((invL p qs x).length) c16, .bool ok]) w3 := hkn (7, _) (by simp)
  cases q16
  have R16 := Lib.hid r16
  have HE := Lib.hid (GW.out.trans he)
  have HEc := Lib.hid he
  clear he hkn r16
  have HU0 : Hid (w3.drew.cell? ⟨w.heap.size, 0, none⟩ = some (.int .i64 p)) := Lib.hid ((ext_drew w3).cell (HEc.out.cell HS0.out))
  have HU1 : Hid (w3.drew.cell? ⟨w.heap.size, 1, none⟩ = some (.slice a d cap)) := Lib.hid ((ext_drew w3).cell (HEc.out.cell HS1.out))
  have GY := Lib.hid (HE.out.trans (ext_drew w3))
  cases ok
  · have HL0 : Hid (invL p qs x = []) := Lib.hid (by unfold invL solR; rw [show okS (2 ^ qs.length) (invRed p qs x) = false from HOk.out.symm]; rfl)
    go_wp2_with (fail)
    refine wp_region_lex [] (by kernel_rfl) (by kernel_rfl) ?_
    (refine LexW.pure (v := ?_) rfl rfl (fun w1 he => ?_) ?_; rotate_left; ( go_simp; rfl); simp only [Act.put, List.setIfInBounds_toArray, List.set_cons_zero, List.set_cons_succ])
    (refine LexW.pure (v := ?_) rfl rfl (fun w1 he => ?_) ?_; rotate_left; ( go_simp; rfl); simp only [Act.put, List.setIfInBounds_toArray, List.set_cons_zero, List.set_cons_succ])
    (refine LexW.pure (v := ?_) rfl rfl (fun w1 he => ?_) ?_; rotate_left; ( go_simp; rfl); simp only [Act.put, List.setIfInBounds_toArray, List.set_cons_zero, List.set_cons_succ])
    (refine LexW.skip rfl rfl ?_; simp only [Act.put, List.setIfInBounds_toArray, List.set_cons_zero, List.set_cons_succ])
    (refine LexW.skip rfl rfl ?_; simp only [Act.put, List.setIfInBounds_toArray, List.set_cons_zero, List.set_cons_succ])
    (refine LexW.skip rfl rfl ?_; simp only [Act.put, List.setIfInBounds_toArray, List.set_cons_zero, List.set_cons_succ])
    (refine LexW.skip rfl rfl ?_; simp only [Act.put, List.setIfInBounds_toArray, List.set_cons_zero, List.set_cons_succ])
    (refine LexW.skip rfl rfl ?_; simp only [Act.put, List.setIfInBounds_toArray, List.set_cons_zero, List.set_cons_succ])
    (refine LexW.skip rfl rfl ?_; simp only [Act.put, List.setIfInBounds_toArray, List.set_cons_zero, List.set_cons_succ])
    (refine LexW.skip rfl rfl ?_; simp only [Act.put, List.setIfInBounds_toArray, List.set_cons_zero, List.set_cons_succ])
    (refine LexW.skip rfl rfl ?_; simp only [Act.put, List.setIfInBounds_toArray, List.set_cons_zero, List.set_cons_succ])
    (refine LexW.pure (v := ?_) rfl rfl (fun w1 he => ?_) ?_; rotate_left; ( go_simp; rfl); simp only [Act.put, List.setIfInBounds_toArray, List.set_cons_zero, List.set_cons_succ])
    refine LexW.nil (fun w4 he hkn => ?_)
    have X4 := Lib.hid (GY.out.trans he)
    clear he hkn
    go_wp2_with (fail)
    go_ret2
    exact ⟨none, 0, by rw [HL0.out]; rfl, by rw [HL0.out]; exact own_nil _ _, X4.out⟩
  · have HIG := inv_right HPR.out (show qs.length ≤ 6 by omega) HOk.out.symm
    have HIL := inv_left HPR.out (show qs.length ≤ 6 by omega) (by rw [← HD.out]; exact HGX.out) HOk.out.symm
    have hil : (invL p qs x).length = N := by rw [HIG.1.1, HD.out]
    have HIyg := Lib.hid (show Good p N (invL p qs x) by rw [HD.out]; exact HIG.1)
    have HTim : Hid (∀ (ay : Option Addr) (cy : Nat) (w1 : World), True → RdC w1 a d qs → RdC w1 ay N (invL p qs x) → RdC w1 ax N x →
      Calls Try.prog 85 #[.agg #[.int .i64 p, .slice a d cap], .slice ay N cy, .slice ax N cx] w1 fun e w' => ∃ g, e = .returned (.slice (some ⟨g, 0, none⟩) N N) ∧ OwnC w1.heap.size w' (some ⟨g, 0, none⟩) N N (bladeL N 0) ∧ Ext w1 w') := Lib.hid (fun ay cy w1 _ h1 h2 h3 => by
      have h := s_timesN HN.out p a cap qs ay ax cy cx (invL p qs x) x w1 hd (by omega) (by omega) h1 HQB.out h2 h3 HIyg.out.isB HGX.out.isB
      rw [HIL, ← HD.out] at h; exact h)
    rw [hil] at R16 ⊢
    have HIy := R16
    have HLN := Lib.hid hil
    clear HIG HIL hil
    go_wp2_with (fail)
    refine wp_region_lex [(6, .ownG w.heap.size N (bladeL N 0)), (8, .ownG w.heap.size N (bladeL N 0)), (9, .val (.bool true))] (by kernel_rfl) (by kernel_rfl) ?_
    (refine LexW.pure (v := ?_) rfl rfl (fun w1 he => ?_) ?_; rotate_left; ( have e1 := he.cell HU0.out; have e2 := he.cell HU1.out; go_simp; rfl); simp only [Act.put, List.setIfInBounds_toArray, List.set_cons_zero, List.set_cons_succ])
    (refine LexW.pure (v := ?_) rfl rfl (fun w1 he => ?_) ?_; rotate_left; ( have e1 := he.cell HU0.out; have e2 := he.cell HU1.out; go_simp; rfl); simp only [Act.put, List.setIfInBounds_toArray, List.set_cons_zero, List.set_cons_succ])
    (refine LexW.pure (v := ?_) rfl rfl (fun w1 he => ?_) ?_; rotate_left; ( have e1 := he.cell HU0.out; have e2 := he.cell HU1.out; go_simp; rfl); simp only [Act.put, List.setIfInBounds_toArray, List.set_cons_zero, List.set_cons_succ])
    (refine LexW.pure (v := ?_) rfl rfl (fun w1 he => ?_) ?_; rotate_left; ( have e1 := he.cell HU0.out; have e2 := he.cell HU1.out; go_simp; rfl); simp only [Act.put, List.setIfInBounds_toArray, List.set_cons_zero, List.set_cons_succ])
    (refine LexW.pure (v := ?_) rfl rfl (fun w1 he => ?_) ?_; rotate_left; ( have e1 := he.cell HU0.out; have e2 := he.cell HU1.out; go_simp; rfl); simp only [Act.put, List.setIfInBounds_toArray, List.set_cons_zero, List.set_cons_succ])
    (refine LexW.pure (v := ?_) rfl rfl (fun w1 he => ?_) ?_; rotate_left; ( have e1 := he.cell HU0.out; have e2 := he.cell HU1.out; go_simp; rfl); simp only [Act.put, List.setIfInBounds_toArray, List.set_cons_zero, List.set_cons_succ])
    (refine LexW.callR (f := ?_) (args := ?_) rfl rfl (fun w1 => ?_) (fun w1 he hdep => ?_) (fun v hv => ?_); rotate_left 2; (go_simp; refine ⟨?_, ?_⟩ <;> rfl); ( refine (HTim.out _ _ w1 trivial (HQ.out.ext (GY.out.trans he)) (HIy.out.rd.ext ((ext_drew w3).trans he)) (HX.out.ext (GY.out.trans he))).mono ?_; rintro e w2 ⟨g, rfl, ho, g2⟩; exact ⟨_, rfl, g2, g, rfl, ho.mono (Nat.le_trans GY.out.size he.size)⟩); simp only [Act.put, List.setIfInBounds_toArray, List.set_cons_zero, List.set_cons_succ])
    obtain ⟨_, g25, rfl, _⟩ := hv
    (refine LexW.pure (v := ?_) rfl rfl (fun w1 he => ?_) ?_; rotate_left; ( have e1 := he.cell HU0.out; have e2 := he.cell HU1.out; go_simp; rfl); simp only [Act.put, List.setIfInBounds_toArray, List.set_cons_zero, List.set_cons_succ])
    (refine LexW.callR (f := ?_) (args := ?_) rfl rfl (fun w1 => ?_) (fun w1 he hdep => ?_) (fun v hv => ?_); rotate_left 2; (go_simp; refine ⟨?_, ?_⟩ <;> rfl); ( refine (s_oneN HN.out p a cap w1 hd).mono ?_; rintro e w2 ⟨g, rfl, ho, g2⟩; exact ⟨_, rfl, g2, g, rfl, ho.mono (Nat.le_trans GY.out.size he.size)⟩); simp only [Act.put, List.setIfInBounds_toArray, List.set_cons_zero, List.set_cons_succ])
    obtain ⟨_, g27, rfl, _⟩ := hv
    (refine LexW.call (f := ?_) (args := ?_) rfl rfl (fun w1 => ?_) (fun w1 he hdep => ?_) ?_; rotate_left 2; (go_simp; refine ⟨?_, ?_⟩ <;> rfl); ( obtain ⟨_, q25, r25⟩ : (SPred.ownG w.heap.size N (bladeL N 0)).holds (.slice (some ⟨g25, 0, none⟩) N N) w1 := hdep (6, 25) (by decide +kernel); cases q25; obtain ⟨_, q27, r27⟩ : (SPred.ownG w.heap.size N (bladeL N 0)).holds (.slice (some ⟨g27, 0, none⟩) N N) w1 := hdep (8, 27) (by decide +kernel); cases q27; have H := s_same _ _ N N N N (bladeL N 0) (bladeL N 0) w1 (by omega) (by omega) r25.rd r27.rd; rw [eqB_self] at H; exact H); simp only [Act.put, List.setIfInBounds_toArray, List.set_cons_zero, List.set_cons_succ])
    (refine LexW.pure (v := ?_) rfl rfl (fun w1 he => ?_) ?_; rotate_left; ( have e1 := he.cell HU0.out; have e2 := he.cell HU1.out; go_simp; rfl); simp only [Act.put, List.setIfInBounds_toArray, List.set_cons_zero, List.set_cons_succ])
    (refine LexW.pure (v := ?_) rfl rfl (fun w1 he => ?_) ?_; rotate_left; ( have e1 := he.cell HU0.out; have e2 := he.cell HU1.out; go_simp; rfl); simp only [Act.put, List.setIfInBounds_toArray, List.set_cons_zero, List.set_cons_succ])
    refine LexW.nil (fun w4 he hkn => ?_)
    have X4 := Lib.hid (GY.out.trans he)
    have R4 := Lib.hid (HIy.out.ext ((ext_drew w3).trans he))
    clear he hkn
    go_wp2_with (fail)
    go_ret2
    exact ⟨_, _, by rw [HLN.out]; rfl, by rw [HLN.out]; exact R4.out, X4.out⟩

end Go.Proofs.Ytbgnfjckbjmgbaa

/-
  The listed function InverseOf.
  No condition.
-/
namespace Go.Proofs.Ytbgnfjckbjmgbaa
set_option maxRecDepth 100000
open Go.RowKit

def codeI (p : Int) (qs x : List Int) : Int := if codeA p qs [x] = 0 then (if invOk p qs x = true then 0 else 5) else codeA p qs [x]
theorem codeI_zero {p : Int} {qs x : List Int} (h : codeI p qs x = 0) : codeA p qs [x] = 0 ∧ invOk p qs x = true := by
  unfold codeI at h
  split at h
  · rename_i h0
    split at h
    · rename_i h1; exact ⟨h0, h1⟩
    · cases h
  · rename_i h0; exact absurd h h0
theorem inv_len {p : Int} {qs x : List Int} (h : invOk p qs x = true) : (invL p qs x).length = 2 ^ qs.length := by
  have h' : okS (2 ^ qs.length) (invRed p qs x) = true := h
  unfold invL solR
  rw [if_pos h']
  simp [solL]
theorem codeA_not {p : Int} {qs x : List Int} (hc : codeA p qs [x] ≠ 0) : (codeM p qs [x] ≠ 0 ∧ codeA p qs [x] = codeM p qs [x]) ∨ (codeM p qs [x] = 0 ∧ ¬ qs.length ≤ 4 ∧ codeA p qs [x] = 3) := by
  unfold codeA at hc ⊢
  by_cases hm : codeM p qs [x] = 0
  · rw [if_pos hm] at hc ⊢
    by_cases h4 : qs.length ≤ 4
    · rw [if_pos h4] at hc; exact absurd rfl hc
    · exact .inr ⟨hm, h4, if_neg h4⟩
  · rw [if_neg hm]; exact .inl ⟨hm, rfl⟩

set_option maxHeartbeats 2000000 in
theorem c_InverseOf_bad (p : Int) (a : Option Addr) (d cap : Nat) (qs : List Int) (ax1 : Option Addr) (n1 cx1 : Nat) (xs1 : List Int) (w : World) (hd : d ≤ 4194304) (hn1 : n1 ≤ 4194304) (hq : RdC w a d qs) (hx1 : RdC w ax1 n1 xs1) (hc : codeI p qs xs1 ≠ 0) :
    Calls Try.prog 41 #[.agg #[.int .i64 p, .slice a d cap], .slice ax1 n1 cx1] w fun e w' => ∃ ra rc, e = .returned (.tuple #[.slice ra 0 rc, .int .i64 (codeI p qs xs1)]) ∧ OwnC w.heap.size w' ra 0 rc [] ∧ Ext w w' := by
  have HX := Lib.hid hx1
  have HQ := Lib.hid hq
  by_cases hca : codeA p qs [xs1] = 0
  · have hi : invOk p qs xs1 = false := by
      cases h : invOk p qs xs1
      · rfl
      · exact absurd (by unfold codeI; rw [if_pos hca, if_pos h]) hc
    have HC := Lib.hid (show codeI p qs xs1 = 5 by unfold codeI; rw [if_pos hca, hi]; rfl)
    have HIV := Lib.hid hi
    obtain ⟨hcm, hq4⟩ := codeA_zero hca
    obtain ⟨hs, hm⟩ := codeM_one hcm
    obtain ⟨hpr, hd1, hd6, hqb⟩ := space_of hs
    have hpb := prime_bd hpr
    obtain ⟨hxl, hxb⟩ := multi_of hm
    rw [hq.1] at hd6 hxl hq4
    have HN := Lib.hid (show n1 = 2 ^ d from hx1.1.symm.trans hxl)
    have HQB := Lib.hid hqb
    have HPR := Lib.hid hpr
    have HGX := Lib.hid (good_isB hx1.1 hxb)
    have HM := Lib.hid hcm
    have hcb : ((0 : Int) != 0) = false := by simp
    have hcb2 : ((0 : Int) == 0) = true := by simp
    clear hc hca hcm hs hm hpr hd1 hqb hxl hxb hi hq hx1
    go_enter Try.func41, Try.ntmps41
    go_wp2_with (first | (go_at_call 79; refine (c_checkMultis p a d cap qs _ 1 _ [xs1] _ hd (by omega) (len_one (by rw [HX.out.1]; exact hn1)) (HQ.out.ext ((ext_alloc _ _).alloc _)) (rdR_one (a := ax1) (n := _) (cap := cx1) (by simp) (HX.out.ext ((ext_alloc _ _).alloc _)))).mono ?_; rintro e w1 ⟨rfl, g1⟩; rw [HM.out]; have hcc := Ext.cells g1; try simp only [World.size_alloc] at hcc) | (go_at_call 103; refine (c_dim _ _ _ _ _).mono ?_; rintro e w2 ⟨rfl, g2⟩; have hcc2 := Ext.cells (g1.trans g2); try simp only [World.size_alloc] at hcc2) | (go_at_call 104; refine (c_inverse HN.out p a cap qs ax1 cx1 xs1 _ hd6 HPR.out (HQ.out.ext (((ext_alloc _ _).alloc _).trans (g1.trans g2))) HQB.out (HX.out.ext (((ext_alloc _ _).alloc _).trans (g1.trans g2))) HGX.out).mono ?_; rintro e w3 ⟨ra, rc, rfl, ho, g3⟩; rw [HIV.out]; have HO := Lib.hid ho; have G3 := Lib.hid ((((ext_alloc _ _).alloc _).trans (g1.trans g2)).trans g3); have HB := Lib.hid ((((ext_alloc _ _).alloc _).trans (g1.trans g2)).size); clear ho g3))
    go_ret2
    exact ⟨none, 0, by rw [HC.out]; rfl, own_nil _ _, G3.out⟩
  · have HC0 := Lib.hid (show codeI p qs xs1 = codeA p qs [xs1] by unfold codeI; rw [if_neg hca])
    rcases codeA_not hca with ⟨hm, he⟩ | ⟨hm, h4, he⟩
    · have HC := Lib.hid (HC0.out.trans he)
      obtain ⟨C, hC⟩ : ∃ C, C = codeM p qs [xs1] := ⟨_, rfl⟩
      have HM := Lib.hid hC.symm
      rw [← hC] at hm HC
      have hcb : (C != 0) = true := by simp [hm]
      have hcb2 : (C == 0) = false := by simp [hm]
      clear hc hca hm he hC hq hx1
      go_enter Try.func41, Try.ntmps41
      go_wp2_with (go_at_call 79; refine (c_checkMultis p a d cap qs _ 1 _ [xs1] _ hd (by omega) (len_one (by rw [HX.out.1]; exact hn1)) (HQ.out.ext ((ext_alloc _ _).alloc _)) (rdR_one (a := ax1) (n := _) (cap := cx1) (by simp) (HX.out.ext ((ext_alloc _ _).alloc _)))).mono ?_; rintro e w1 ⟨rfl, g1⟩; rw [HM.out]; have hcc := Ext.cells g1; try simp only [World.size_alloc] at hcc)
      go_ret2
      exact ⟨none, 0, by rw [HC.out]; rfl, own_nil _ _, ((ext_alloc _ _).alloc _).trans g1⟩
    · have HC := Lib.hid (HC0.out.trans he)
      have HM := Lib.hid hm
      have hcb : ((0 : Int) != 0) = false := by simp
      have hcb2 : ((0 : Int) == 0) = true := by simp
      rw [hq.1] at h4
      have h5 : ¬ (d : Int) ≤ 4 := by omega
      clear hc hca hm he hq hx1
      go_enter Try.func41, Try.ntmps41
      go_wp2_with (first | (go_at_call 79; refine (c_checkMultis p a d cap qs _ 1 _ [xs1] _ hd (by omega) (len_one (by rw [HX.out.1]; exact hn1)) (HQ.out.ext ((ext_alloc _ _).alloc _)) (rdR_one (a := ax1) (n := _) (cap := cx1) (by simp) (HX.out.ext ((ext_alloc _ _).alloc _)))).mono ?_; rintro e w1 ⟨rfl, g1⟩; rw [HM.out]; have hcc := Ext.cells g1; try simp only [World.size_alloc] at hcc) | (go_at_call 103; refine (c_dim _ _ _ _ _).mono ?_; rintro e w2 ⟨rfl, g2⟩; have hcc2 := Ext.cells (g1.trans g2); try simp only [World.size_alloc] at hcc2))
      go_ret2
      exact ⟨none, 0, by rw [HC.out]; rfl, own_nil _ _, ((ext_alloc _ _).alloc _).trans (g1.trans g2)⟩
set_option maxHeartbeats 2000000 in
theorem c_InverseOf_ok (p : Int) (a : Option Addr) (d cap : Nat) (qs : List Int) (ax1 : Option Addr) (n1 cx1 : Nat) (xs1 : List Int) (w : World) (hd : d ≤ 4194304) (hn1 : n1 ≤ 4194304) (hq : RdC w a d qs) (hx1 : RdC w ax1 n1 xs1) (hc : codeI p qs xs1 = 0) :
    Calls Try.prog 41 #[.agg #[.int .i64 p, .slice a d cap], .slice ax1 n1 cx1] w fun e w' => ∃ ra rc, e = .returned (.tuple #[.slice ra (2 ^ d) rc, .int .i64 0]) ∧ OwnC w.heap.size w' ra (2 ^ d) rc (invL p qs xs1) ∧ Ext w w' := by
  obtain ⟨hca, hi⟩ := codeI_zero hc
  have HX := Lib.hid hx1
  have HQ := Lib.hid hq
  have HIV := Lib.hid hi
  obtain ⟨N, hNN⟩ : ∃ N, N = 2 ^ d := ⟨_, rfl⟩
  rw [← hNN]
  have HLen := Lib.hid (show (invL p qs xs1).length = N by rw [inv_len hi, hq.1, hNN])
  obtain ⟨hcm, hq4⟩ := codeA_zero hca
  obtain ⟨hs, hm⟩ := codeM_one hcm
  obtain ⟨hpr, hd1, hd6, hqb⟩ := space_of hs
  have hpb := prime_bd hpr
  obtain ⟨hxl, hxb⟩ := multi_of hm
  rw [hq.1] at hd6 hxl hq4
  have HN := Lib.hid (show n1 = 2 ^ d from hx1.1.symm.trans hxl)
  have HQB := Lib.hid hqb
  have HPR := Lib.hid hpr
  have HGX := Lib.hid (good_isB hx1.1 hxb)
  have HM := Lib.hid hcm
  have hcb : ((0 : Int) != 0) = false := by simp
  have hcb2 : ((0 : Int) == 0) = true := by simp
  clear hc hca hcm hs hm hpr hd1 hqb hxl hxb hi hq hx1 hNN
  go_enter Try.func41, Try.ntmps41
  go_wp2_with (first | (go_at_call 79; refine (c_checkMultis p a d cap qs _ 1 _ [xs1] _ hd (by omega) (len_one (by rw [HX.out.1]; exact hn1)) (HQ.out.ext ((ext_alloc _ _).alloc _)) (rdR_one (a := ax1) (n := _) (cap := cx1) (by simp) (HX.out.ext ((ext_alloc _ _).alloc _)))).mono ?_; rintro e w1 ⟨rfl, g1⟩; rw [HM.out]; have hcc := Ext.cells g1; try simp only [World.size_alloc] at hcc) | (go_at_call 103; refine (c_dim _ _ _ _ _).mono ?_; rintro e w2 ⟨rfl, g2⟩; have hcc2 := Ext.cells (g1.trans g2); try simp only [World.size_alloc] at hcc2) | (go_at_call 104; refine (c_inverse HN.out p a cap qs ax1 cx1 xs1 _ hd6 HPR.out (HQ.out.ext (((ext_alloc _ _).alloc _).trans (g1.trans g2))) HQB.out (HX.out.ext (((ext_alloc _ _).alloc _).trans (g1.trans g2))) HGX.out).mono ?_; rintro e w3 ⟨ra, rc, rfl, ho, g3⟩; rw [HIV.out]; have HO := Lib.hid ho; have G3 := Lib.hid ((((ext_alloc _ _).alloc _).trans (g1.trans g2)).trans g3); have HB := Lib.hid ((((ext_alloc _ _).alloc _).trans (g1.trans g2)).size); clear ho g3))
  go_ret2
  exact ⟨ra, rc, by rw [← HLen.out]; rfl, by have h := HO.out.mono HB.out; rw [HLen.out] at h; exact h, G3.out⟩

set_option maxHeartbeats 2000000 in
theorem s_InverseOf_bad (p : Int) (a : Option Addr) (d cap : Nat) (qs : List Int) (ax1 : Option Addr) (n1 cx1 : Nat) (xs1 : List Int) (w : World) (hd : d ≤ 4194304) (hn1 : n1 ≤ 4194304) (hq : RdC w a d qs) (hx1 : RdC w ax1 n1 xs1) (hc : codeI p qs xs1 ≠ 0) :
    Calls Try.prog 42 #[.agg #[.int .i64 p, .slice a d cap], .slice ax1 n1 cx1] w fun e w' => ∃ ra rc, e = .returned (.tuple #[.slice ra 0 rc, .int .i64 (codeI p qs xs1)]) ∧ OwnC w.heap.size w' ra 0 rc [] ∧ Ext w w' := by
  have HX := Lib.hid hx1
  have HQ := Lib.hid hq
  by_cases hca : codeA p qs [xs1] = 0
  · have hi : invOk p qs xs1 = false := by
      cases h : invOk p qs xs1
      · rfl
      · exact absurd (by unfold codeI; rw [if_pos hca, if_pos h]) hc
    have HC := Lib.hid (show codeI p qs xs1 = 5 by unfold codeI; rw [if_pos hca, hi]; rfl)
    have HIV := Lib.hid hi
    obtain ⟨hcm, hq4⟩ := codeA_zero hca
    obtain ⟨hs, hm⟩ := codeM_one hcm
    obtain ⟨hpr, hd1, hd6, hqb⟩ := space_of hs
    have hpb := prime_bd hpr
    obtain ⟨hxl, hxb⟩ := multi_of hm
    rw [hq.1] at hd6 hxl hq4
    have HN := Lib.hid (show n1 = 2 ^ d from hx1.1.symm.trans hxl)
    have HQB := Lib.hid hqb
    have HPR := Lib.hid hpr
    have HGX := Lib.hid (good_isB hx1.1 hxb)
    have HM := Lib.hid hcm
    have hcb : ((0 : Int) != 0) = false := by simp
    have hcb2 : ((0 : Int) == 0) = true := by simp
    clear hc hca hcm hs hm hpr hd1 hqb hxl hxb hi hq hx1
    go_enter Try.func42, Try.ntmps42
    go_wp2_with (first | (go_at_call 84; refine (s_code p a d cap qs _ 1 _ [xs1] _ hd (by omega) (len_one (by rw [HX.out.1]; exact hn1)) (HQ.out.ext ((ext_alloc _ _).alloc _)) (rdR_one (a := ax1) (n := _) (cap := cx1) (by simp) (HX.out.ext ((ext_alloc _ _).alloc _)))).mono ?_; rintro e w1 ⟨rfl, g1⟩; rw [HM.out]; have hcc := Ext.cells g1; try simp only [World.size_alloc] at hcc) | (go_at_call 105; refine (s_inverse HN.out p a cap qs ax1 cx1 xs1 _ hd6 HPR.out (HQ.out.ext (((ext_alloc _ _).alloc _).trans g1)) HQB.out (HX.out.ext (((ext_alloc _ _).alloc _).trans g1)) HGX.out).mono ?_; rintro e w3 ⟨ra, rc, rfl, ho, g3⟩; rw [HIV.out]; have HO := Lib.hid ho; have G3 := Lib.hid ((((ext_alloc _ _).alloc _).trans g1).trans g3); have HB := Lib.hid ((((ext_alloc _ _).alloc _).trans g1).size); clear ho g3))
    go_ret2
    exact ⟨none, 0, by rw [HC.out]; rfl, own_nil _ _, G3.out⟩
  · have HC0 := Lib.hid (show codeI p qs xs1 = codeA p qs [xs1] by unfold codeI; rw [if_neg hca])
    rcases codeA_not hca with ⟨hm, he⟩ | ⟨hm, h4, he⟩
    · have HC := Lib.hid (HC0.out.trans he)
      obtain ⟨C, hC⟩ : ∃ C, C = codeM p qs [xs1] := ⟨_, rfl⟩
      have HM := Lib.hid hC.symm
      rw [← hC] at hm HC
      have hcb : (C != 0) = true := by simp [hm]
      have hcb2 : (C == 0) = false := by simp [hm]
      clear hc hca hm he hC hq hx1
      go_enter Try.func42, Try.ntmps42
      go_wp2_with (go_at_call 84; refine (s_code p a d cap qs _ 1 _ [xs1] _ hd (by omega) (len_one (by rw [HX.out.1]; exact hn1)) (HQ.out.ext ((ext_alloc _ _).alloc _)) (rdR_one (a := ax1) (n := _) (cap := cx1) (by simp) (HX.out.ext ((ext_alloc _ _).alloc _)))).mono ?_; rintro e w1 ⟨rfl, g1⟩; rw [HM.out]; have hcc := Ext.cells g1; try simp only [World.size_alloc] at hcc)
      go_ret2
      exact ⟨none, 0, by rw [HC.out]; rfl, own_nil _ _, ((ext_alloc _ _).alloc _).trans g1⟩
    · have HC := Lib.hid (HC0.out.trans he)
      have HM := Lib.hid hm
      have hcb : ((0 : Int) != 0) = false := by simp
      have hcb2 : ((0 : Int) == 0) = true := by simp
      rw [hq.1] at h4
      have h5 : ¬ (d : Int) ≤ 4 := by omega
      clear hc hca hm he hq hx1
      go_enter Try.func42, Try.ntmps42
      go_wp2_with (first | (go_at_call 84; refine (s_code p a d cap qs _ 1 _ [xs1] _ hd (by omega) (len_one (by rw [HX.out.1]; exact hn1)) (HQ.out.ext ((ext_alloc _ _).alloc _)) (rdR_one (a := ax1) (n := _) (cap := cx1) (by simp) (HX.out.ext ((ext_alloc _ _).alloc _)))).mono ?_; rintro e w1 ⟨rfl, g1⟩; rw [HM.out]; have hcc := Ext.cells g1; try simp only [World.size_alloc] at hcc))
      go_ret2
      exact ⟨none, 0, by rw [HC.out]; rfl, own_nil _ _, ((ext_alloc _ _).alloc _).trans g1⟩
set_option maxHeartbeats 2000000 in
theorem s_InverseOf_ok (p : Int) (a : Option Addr) (d cap : Nat) (qs : List Int) (ax1 : Option Addr) (n1 cx1 : Nat) (xs1 : List Int) (w : World) (hd : d ≤ 4194304) (hn1 : n1 ≤ 4194304) (hq : RdC w a d qs) (hx1 : RdC w ax1 n1 xs1) (hc : codeI p qs xs1 = 0) :
    Calls Try.prog 42 #[.agg #[.int .i64 p, .slice a d cap], .slice ax1 n1 cx1] w fun e w' => ∃ ra rc, e = .returned (.tuple #[.slice ra (2 ^ d) rc, .int .i64 0]) ∧ OwnC w.heap.size w' ra (2 ^ d) rc (invL p qs xs1) ∧ Ext w w' := by
  obtain ⟨hca, hi⟩ := codeI_zero hc
  have HX := Lib.hid hx1
  have HQ := Lib.hid hq
  have HIV := Lib.hid hi
  obtain ⟨N, hNN⟩ : ∃ N, N = 2 ^ d := ⟨_, rfl⟩
  rw [← hNN]
  have HLen := Lib.hid (show (invL p qs xs1).length = N by rw [inv_len hi, hq.1, hNN])
  obtain ⟨hcm, hq4⟩ := codeA_zero hca
  obtain ⟨hs, hm⟩ := codeM_one hcm
  obtain ⟨hpr, hd1, hd6, hqb⟩ := space_of hs
  have hpb := prime_bd hpr
  obtain ⟨hxl, hxb⟩ := multi_of hm
  rw [hq.1] at hd6 hxl hq4
  have HN := Lib.hid (show n1 = 2 ^ d from hx1.1.symm.trans hxl)
  have HQB := Lib.hid hqb
  have HPR := Lib.hid hpr
  have HGX := Lib.hid (good_isB hx1.1 hxb)
  have HM := Lib.hid hcm
  have hcb : ((0 : Int) != 0) = false := by simp
  have hcb2 : ((0 : Int) == 0) = true := by simp
  clear hc hca hcm hs hm hpr hd1 hqb hxl hxb hi hq hx1 hNN
  go_enter Try.func42, Try.ntmps42
  go_wp2_with (first | (go_at_call 84; refine (s_code p a d cap qs _ 1 _ [xs1] _ hd (by omega) (len_one (by rw [HX.out.1]; exact hn1)) (HQ.out.ext ((ext_alloc _ _).alloc _)) (rdR_one (a := ax1) (n := _) (cap := cx1) (by simp) (HX.out.ext ((ext_alloc _ _).alloc _)))).mono ?_; rintro e w1 ⟨rfl, g1⟩; rw [HM.out]; have hcc := Ext.cells g1; try simp only [World.size_alloc] at hcc) | (go_at_call 105; refine (s_inverse HN.out p a cap qs ax1 cx1 xs1 _ hd6 HPR.out (HQ.out.ext (((ext_alloc _ _).alloc _).trans g1)) HQB.out (HX.out.ext (((ext_alloc _ _).alloc _).trans g1)) HGX.out).mono ?_; rintro e w3 ⟨ra, rc, rfl, ho, g3⟩; rw [HIV.out]; have HO := Lib.hid ho; have G3 := Lib.hid ((((ext_alloc _ _).alloc _).trans g1).trans g3); have HB := Lib.hid ((((ext_alloc _ _).alloc _).trans g1).size); clear ho g3))
  go_ret2
  exact ⟨ra, rc, by rw [← HLen.out]; rfl, by have h := HO.out.mono HB.out; rw [HLen.out] at h; exact h, G3.out⟩

end Go.Proofs.Ytbgnfjckbjmgbaa

/-
  The listed function HasInverse.
  No condition.
-/
namespace Go.Proofs.Ytbgnfjckbjmgbaa
set_option maxRecDepth 100000
open Go.RowKit

set_option maxHeartbeats 400000 in
theorem c_HasInverse_bad (p : Int) (a : Option Addr) (d cap : Nat) (qs : List Int) (ax1 : Option Addr) (n1 cx1 : Nat) (xs1 : List Int) (w : World) (hd : d ≤ 4194304) (hn1 : n1 ≤ 4194304) (hq : RdC w a d qs) (hx1 : RdC w ax1 n1 xs1) (hc : codeA p qs [xs1] ≠ 0) :
    Calls Try.prog 45 #[.agg #[.int .i64 p, .slice a d cap], .slice ax1 n1 cx1] w fun e w' => e = .returned (.tuple #[.bool false, .int .i64 (codeA p qs [xs1])]) ∧ Ext w w' := by
  have hcb : (codeA p qs [xs1] != 0) = true := by simp [hc]
  clear hc
  go_enter Try.func45, Try.ntmps45
  go_wp2_with (go_at_call 106; refine (c_checkAlgebra p a d cap qs _ 1 _ [xs1] _ hd (by omega) (len_one (by rw [hx1.1]; exact hn1)) (hq.ext ((ext_alloc _ _).alloc _)) (rdR_one (a := ax1) (n := _) (cap := cx1) (by simp) (hx1.ext ((ext_alloc _ _).alloc _)))).mono ?_; rintro e w1 ⟨rfl, g1⟩)
  go_ret2
  exact ⟨rfl, ((ext_alloc _ _).alloc _).trans g1⟩
set_option maxHeartbeats 1000000 in
theorem c_HasInverse_ok (p : Int) (a : Option Addr) (d cap : Nat) (qs : List Int) (ax1 : Option Addr) (n1 cx1 : Nat) (xs1 : List Int) (w : World) (hd : d ≤ 4194304) (hn1 : n1 ≤ 4194304) (hq : RdC w a d qs) (hx1 : RdC w ax1 n1 xs1) (hc : codeA p qs [xs1] = 0) :
    Calls Try.prog 45 #[.agg #[.int .i64 p, .slice a d cap], .slice ax1 n1 cx1] w fun e w' => e = .returned (.tuple #[.bool (invOk p qs xs1), .int .i64 0]) ∧ Ext w w' := by
  obtain ⟨hcm, hq4⟩ := codeA_zero hc
  obtain ⟨hs, hm⟩ := codeM_one hcm
  obtain ⟨hpr, hd1, hd6, hqb⟩ := space_of hs
  have hpb := prime_bd hpr
  obtain ⟨hxl, hxb⟩ := multi_of hm
  rw [hq.1] at hd6 hxl
  have HN := Lib.hid (show n1 = 2 ^ d from hx1.1.symm.trans hxl)
  have HQB := Lib.hid hqb
  have HPR := Lib.hid hpr
  have HGX := Lib.hid (good_isB hx1.1 hxb)
  have HC := Lib.hid hc
  have hcb : ((0 : Int) != 0) = false := by simp
  clear hc hcm hq4 hs hm hpr hd1 hqb hxl hxb
  go_enter Try.func45, Try.ntmps45
  go_wp2_with (first | (go_at_call 106; refine (c_checkAlgebra p a d cap qs _ 1 _ [xs1] _ hd (by omega) (len_one (by rw [hx1.1]; exact hn1)) (hq.ext ((ext_alloc _ _).alloc _)) (rdR_one (a := ax1) (n := _) (cap := cx1) (by simp) (hx1.ext ((ext_alloc _ _).alloc _)))).mono ?_; rintro e w1 ⟨rfl, g1⟩; rw [HC.out]; have hcc := Ext.cells g1; try simp only [World.size_alloc] at hcc) | (go_at_call 104; refine (c_inverse HN.out p a cap qs ax1 cx1 xs1 _ hd6 HPR.out (hq.ext (((ext_alloc _ _).alloc _).trans g1)) HQB.out (hx1.ext (((ext_alloc _ _).alloc _).trans g1)) HGX.out).mono ?_; rintro e w2 ⟨ra, rc, rfl, ho, g2⟩; have G2 := Lib.hid ((((ext_alloc _ _).alloc _).trans g1).trans g2); clear ho g2))
  go_ret2
  exact ⟨rfl, G2.out⟩


end Go.Proofs.Ytbgnfjckbjmgbaa
