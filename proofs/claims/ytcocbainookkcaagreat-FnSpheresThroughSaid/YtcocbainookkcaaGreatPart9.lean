/-
  Contracts and plain laws, part 9: AppV, InvM, Inverse, RedW, KernelS, RedK, WedgeP.
  No condition.
-/
import Derived.Test.YtcocbainookkcaaGreatPart8
import Derived.Test.YtcocbainookkcaaGreatPart5
import Derived.Test.YtcocbainookkcaaGreatPart6
import Derived.Test.YtcocbainookkcaaGreatPart2
import Derived.Test.YtcocbainookkcaaGreatPart3
import Derived.Test.YtcocbainookkcaaGreatPart4
/-
  A list of the call's own whose rows are only read; appends to it.
  No condition.
-/
namespace Go.Proofs.YtcocbainookkcaaGreat
set_option maxRecDepth 100000
open Go.RowKit

/-- A list of the call's own (from block B on); its rows are rows of numbers in blocks of numbers. -/
def OwnVC (C B : Nat) (w : World) (a : Option Addr) (n cap : Nat) (rows : List (List Int)) : Prop :=
  rows.length = n ∧ ∃ vs : List Value, w.ownsRow B 24 1 (.slice a n cap) n vs ∧
    ∀ i, i < n → ∃ ai ci, vs[i]? = some (.slice ai (nthR rows i).length ci) ∧ OwnC C w ai (nthR rows i).length ci (nthR rows i)
abbrev OwnV (B : Nat) := OwnVC 0 B
theorem OwnR.toV {C B : Nat} {w : World} {a : Option Addr} {n cap : Nat} {rows : List (List Int)} (h : OwnR B w a n cap rows) (hC : C ≤ B) : OwnVC C B w a n cap rows := by
  obtain ⟨h1, vs, h2, _, h4⟩ := h
  exact ⟨h1, vs, h2, fun i hi => by
    obtain ⟨ai, ci, h5, h6⟩ := h4 i hi
    exact ⟨ai, ci, h5, h6.mono hC⟩⟩
theorem OwnVC.ext {C B : Nat} {w w' : World} {a : Option Addr} {n cap : Nat} {rows : List (List Int)} (h : OwnVC C B w a n cap rows) (he : Ext w w') : OwnVC C B w' a n cap rows := by
  obtain ⟨h1, vs, h2, h4⟩ := h
  refine ⟨h1, vs, ownsRow_ext h2 he, fun i hi => ?_⟩
  obtain ⟨ai, ci, h5, h6⟩ := h4 i hi
  exact ⟨ai, ci, h5, h6.ext he⟩
theorem OwnVC.blk {C B : Nat} {w : World} {a : Option Addr} {n cap : Nat} {rows : List (List Int)} (h : OwnVC C B w a n cap rows) : ∀ k, (Value.slice a n cap).ownBlock = some k → B ≤ k ∧ k < w.heap.size := by
  intro k hk
  obtain ⟨_, vs, h2, _⟩ := h
  exact h2.lt k hk
theorem OwnVC.rd {C B : Nat} {w : World} {a : Option Addr} {n cap : Nat} {rows : List (List Int)} (h : OwnVC C B w a n cap rows) : RdR w a n rows := by
  obtain ⟨h1, vs, ⟨h2, h3⟩, h4⟩ := h
  refine ⟨h1, fun i hi => ?_⟩
  rcases h3 with ⟨_, h3⟩ | ⟨g, c, cur, hv, hb, hh, hc1, hc2, hc3, hc4⟩
  · omega
  · simp only [Value.slice.injEq] at hv
    obtain ⟨hv1, _, _⟩ := hv
    obtain ⟨ai, ci, h5, h6⟩ := h4 i hi
    refine ⟨g, 0, ai, ci, hv1, ?_, h6.rd⟩
    rw [← hc4, List.getElem?_take_of_lt (by omega), Array.getElem?_toList] at h5
    simp only [World.cell?, hh]
    simpa using h5
/-- The same, or the empty list that was made at the start. -/
def OwnXC (C B : Nat) (w : World) (a : Option Addr) (n cap : Nat) (rows : List (List Int)) : Prop :=
  (n = 0 ∧ cap = 0 ∧ rows = [] ∧ ∃ g, a = some ⟨g, 0, none⟩ ∧ g < w.heap.size) ∨ OwnVC C B w a n cap rows
abbrev OwnX (B : Nat) := OwnXC 0 B
theorem OwnXC.rd {C B : Nat} {w : World} {a : Option Addr} {n cap : Nat} {rows : List (List Int)} (h : OwnXC C B w a n cap rows) : RdR w a n rows := by
  rcases h with ⟨rfl, _, rfl, _⟩ | h
  · exact ⟨rfl, fun i hi => by omega⟩
  · exact h.rd
theorem OwnXC.ext {C B : Nat} {w w' : World} {a : Option Addr} {n cap : Nat} {rows : List (List Int)} (h : OwnXC C B w a n cap rows) (he : Ext w w') : OwnXC C B w' a n cap rows := by
  rcases h with ⟨h1, h2, h3, g, h4, h5⟩ | h
  · exact .inl ⟨h1, h2, h3, g, h4, Nat.lt_of_lt_of_le h5 he.size⟩
  · exact .inr (h.ext he)

theorem run_appendV {C B : Nat} {w : World} {ra : Option Addr} {n cap : Nat} {rows : List (List Int)} {g2 m c2 : Nat} {rows2 : List (List Int)} {us : List Value} (hown : OwnVC C B w ra n cap rows) (hul : us.length = m) (h2l : rows2.length = m) (hcell : ∀ j u, us[j]? = some u → w.cell? ⟨g2, j, none⟩ = some u) (x4 : ∀ i, i < m → ∃ ai ci, us[i]? = some (.slice ai (nthR rows2 i).length ci) ∧ OwnC C w ai (nthR rows2 i).length ci (nthR rows2 i)) (hm : 0 < m) (hn : n ≤ 4194304) (hml : m ≤ 4194304) (hB : B ≤ w.heap.size) (ty : TypeId) :
    ∃ g' cap' w', (Builtin.append_ #[27, 27] ty #[.slice ra n cap, .slice (some ⟨g2, 0, none⟩) m c2]).run Tryz.prog w = .ok (.slice (some ⟨g', 0, none⟩) (n + m) cap') w' ∧
      OwnVC C B w' (some ⟨g', 0, none⟩) (n + m) cap' (rows ++ rows2) ∧ w.grownBy w' (Value.slice ra n cap).ownBlock ∧ (g' = w.heap.size ∨ (Value.slice ra n cap).ownBlock = some g') ∧ (∀ W : World, W.heap.size ≤ B → Ext W w → Ext W w') := by
  obtain ⟨i0, hi, hz0, hz1, hz2⟩ := info_parts Tryz.infoR
  have hown0 := hown
  obtain ⟨h1, vs, h2, h4⟩ := hown
  have hvl : vs.length = n := by have := h2.1; omega
  obtain ⟨v', w', hr, h5, h6, _, hbk⟩ := run_append_own_at (P := Tryz.prog) w B 27 ty 24 i0 (.slice none 0 0) 1 24 Tryz.underlying27 hi hz0 hz1 hz2 rfl (by decide) (.slice ra n cap) n vs h2
    ⟨g2, 0, none⟩ m c2 us (by omega) (fun j u hj => by
      have := hcell j u hj
      by_cases hj0 : j = 0
      · subst hj0; simpa [Addr.add] using this
      · simpa [Addr.add, hj0] using this) (fun u hu => by
        obtain ⟨j, hj, rfl⟩ := List.getElem_of_mem hu
        obtain ⟨ai, ci, h7, _⟩ := x4 j (by omega)
        rw [List.getElem?_eq_getElem hj] at h7
        rw [Option.some.inj h7]; rfl) (by unfold maxLen; omega) (by omega) hB
  have form : ∃ g cap, v' = .slice (some ⟨g, 0, none⟩) (n + m) cap := by
    rcases h5.2 with ⟨_, h3⟩ | ⟨g, c, cur, hv, _⟩
    · omega
    · exact ⟨g, c, hv⟩
  obtain ⟨g', cap', rfl⟩ := form
  refine ⟨g', cap', w', hr, ⟨by simp [h1, h2l], vs ++ us, h5, fun i hin => ?_⟩, h6, hbk.elim (fun h => .inr h.symm) (fun h => .inl (Option.some.inj h)), fun W hW hE => hE.grown h6 fun k hk => Nat.le_trans hW (hown0.blk k hk).1⟩
  by_cases hlt : i < n
  · obtain ⟨ai, ci, h7, h8⟩ := h4 i hlt
    have e : nthR (rows ++ rows2) i = nthR rows i := by simp [nthR, List.getElem?_append_left (show i < rows.length by omega)]
    rw [e]
    exact ⟨ai, ci, by rw [List.getElem?_append_left (by omega)]; exact h7, h8.grown h6 (own_apart h2 h8)⟩
  · obtain ⟨ai, ci, h7, h8⟩ := x4 (i - n) (by omega)
    have e : nthR (rows ++ rows2) i = nthR rows2 (i - n) := by
      unfold nthR
      rw [List.getD_eq_getElem?_getD, List.getD_eq_getElem?_getD, List.getElem?_append_right (by omega), h1]
    rw [e]
    exact ⟨ai, ci, by rw [List.getElem?_append_right (by omega), hvl]; exact h7, h8.grown h6 (own_apart h2 h8)⟩
theorem OwnVC.nil (C B : Nat) (w : World) : OwnVC C B w none 0 0 [] := by
  obtain ⟨h1, vs, h2, _⟩ := OwnR.nil B w
  exact ⟨h1, vs, h2, fun i hi => absurd hi (Nat.not_lt_zero _)⟩

theorem run_appendX {C B : Nat} {w : World} {ra : Option Addr} {n cap : Nat} {rows : List (List Int)} {g2 m c2 : Nat} {rows2 : List (List Int)} {us : List Value} (hown : OwnXC C B w ra n cap rows) (hul : us.length = m) (h2l : rows2.length = m) (hcell : ∀ j u, us[j]? = some u → w.cell? ⟨g2, j, none⟩ = some u) (x4 : ∀ i, i < m → ∃ ai ci, us[i]? = some (.slice ai (nthR rows2 i).length ci) ∧ OwnC C w ai (nthR rows2 i).length ci (nthR rows2 i)) (hm : 0 < m) (hn : n ≤ 4194304) (hml : m ≤ 4194304) (hB : B ≤ w.heap.size) (ty : TypeId) :
    ∃ g' cap' w' row, (Builtin.append_ #[27, 27] ty #[.slice ra n cap, .slice (some ⟨g2, 0, none⟩) m c2]).run Tryz.prog w = .ok (.slice (some ⟨g', 0, none⟩) (n + m) cap') w' ∧
      OwnVC C B w' (some ⟨g', 0, none⟩) (n + m) cap' (rows ++ rows2) ∧ w.grownBy w' row ∧ (row = none ∨ OwnVC C B w ra n cap rows ∧ row = (Value.slice ra n cap).ownBlock) ∧ (g' = w.heap.size ∨ row = some g') ∧ (∀ W : World, W.heap.size ≤ B → Ext W w → Ext W w') := by
  rcases hown with ⟨rfl, rfl, rfl, g0, rfl, _⟩ | hown
  · obtain ⟨g', cap', w', h1, h2, h3, h4, h5⟩ := run_appendV (OwnVC.nil C B w) hul h2l hcell x4 hm hn hml hB ty
    refine ⟨g', cap', w', none, ?_, h2, h3, .inl rfl, ?_, h5⟩
    · rw [append_emptyN w _ _ m c2 us ty hul (fun j u hj => by
        have := hcell j u hj
        by_cases hj0 : j = 0
        · subst hj0; simpa [Addr.add] using this
        · simpa [Addr.add, hj0] using this) hm hml]; exact h1
    · rcases h4 with h | h
      · exact .inl h
      · simp [Value.ownBlock] at h
  · obtain ⟨g', cap', w', h1, h2, h3, h4, h5⟩ := run_appendV hown hul h2l hcell x4 hm hn hml hB ty
    exact ⟨g', cap', w', _, h1, h2, h3, .inr ⟨hown, rfl⟩, h4, h5⟩

theorem wpList_appendX {ops : Array Oper} {rest : List Oper} {o : Oper} {a : Act} {Q : Exit → Act → World → Prop} {w : World} (hgd : o.guard = none) (s x : Operand)
    (ho : o.op = .call { callee := .builtin .append, args := #[s, x], argTypes := #[27, 27] })
    {C B : Nat} {ra : Option Addr} {n cap : Nat} {rows : List (List Int)} {g2 m c2 : Nat} {rows2 : List (List Int)} {us : List Value} (hs : a.eval s = .slice ra n cap) (hx : a.eval x = .slice (some ⟨g2, 0, none⟩) m c2)
    (hown : OwnXC C B w ra n cap rows) (hul : us.length = m) (h2l : rows2.length = m) (hcell : ∀ j u, us[j]? = some u → w.cell? ⟨g2, j, none⟩ = some u) (x4 : ∀ i, i < m → ∃ ai ci, us[i]? = some (.slice ai (nthR rows2 i).length ci) ∧ OwnC C w ai (nthR rows2 i).length ci (nthR rows2 i)) (hm : 0 < m) (hn : n ≤ 4194304) (hml : m ≤ 4194304) (hB : B ≤ w.heap.size)
    (h : ∀ g' cap' w' row, OwnVC C B w' (some ⟨g', 0, none⟩) (n + m) cap' (rows ++ rows2) → w.grownBy w' row → (row = none ∨ OwnVC C B w ra n cap rows ∧ row = (Value.slice ra n cap).ownBlock) → (g' = w.heap.size ∨ row = some g') → (∀ W : World, W.heap.size ≤ B → Ext W w → Ext W w') →
      wpList Tryz.prog ops Q rest (a.put o.dst (.slice (some ⟨g', 0, none⟩) (n + m) cap')) w') : wpList Tryz.prog ops Q (o :: rest) a w := by
  refine wpList_plain hgd fun K hK => ?_
  obtain ⟨g', cap', w', row, hr, h1, h2, h3, h4, h5⟩ := run_appendX (c2 := c2) hown hul h2l hcell x4 hm hn hml hB o.type
  unfold Oper.wp execOp
  simp only [ho, resolve, invoke, builtin, Sem.run_bind, Sem.run_pure, Result.andThen_ok, List.map_toArray, List.map_cons, List.map_nil, hs, hx, hr]
  exact hK _ _ (h g' cap' w' row h1 h2 h3 h4 h5)

/-- Owned rows stay, where another block is grown. -/
theorem OwnR.grown3 {B : Nat} {w w' : World} {g n cap : Nat} {rows : List (List Int)} {row : Option Nat} (h : OwnR B w (some ⟨g, 0, none⟩) n cap rows) (hg : w.grownBy w' row) (hne : row ≠ some g) (hin : ∀ i ai ci, i < n → OwnC B w ai (nthR rows i).length ci (nthR rows i) → ∀ k, ai = some ⟨k, 0, none⟩ → row ≠ some k) : OwnR B w' (some ⟨g, 0, none⟩) n cap rows := by
  have hlt := h.base_of g rfl
  obtain ⟨h1, vs, hv, hap, h4⟩ := h
  refine ⟨h1, vs, ⟨hv.1, ?_⟩, hap, fun i hi => ?_⟩
  · rcases hv.2 with h3 | ⟨g1, c, cur, hv, hb, hh, h4⟩
    · exact .inl h3
    · refine .inr ⟨g1, c, cur, hv, hb, ?_, h4⟩
      simp only [Value.slice.injEq, Option.some.injEq, Addr.mk.injEq] at hv
      obtain ⟨⟨rfl, _⟩, _⟩ := hv
      rw [hg.block g hlt.2 (fun e => hne e.symm)]; exact hh
  · obtain ⟨ai, ci, h5, h6⟩ := h4 i hi
    exact ⟨ai, ci, h5, h6.grown hg (hin i ai ci hi h6)⟩

/-- A matrix from before a world, or one of the call's own in another block than g. -/
def MatX (W w : World) (g : Nat) (a : Option Addr) (d cap : Nat) (rows : List (List Int)) : Prop :=
  RdR W a d rows ∨ ∃ gm, a = some ⟨gm, 0, none⟩ ∧ gm ≠ g ∧ OwnR W.heap.size w (some ⟨gm, 0, none⟩) d cap rows
theorem MatX.rd {W w : World} {g : Nat} {a : Option Addr} {d cap : Nat} {rows : List (List Int)} (h : MatX W w g a d cap rows) (he : Ext W w) : RdR w a d rows := by
  rcases h with h | ⟨gm, rfl, _, h⟩
  · exact h.ext he
  · exact h.rd
theorem MatX.ext {W w w' : World} {g : Nat} {a : Option Addr} {d cap : Nat} {rows : List (List Int)} (h : MatX W w g a d cap rows) (he : Ext w w') : MatX W w' g a d cap rows := by
  rcases h with h | ⟨gm, h1, h2, h⟩
  · exact .inl h
  · exact .inr ⟨gm, h1, h2, h.ext he⟩
theorem MatX.app {W w w' : World} {g g' n c : Nat} {a : Option Addr} {d cap : Nat} {rows out : List (List Int)} {row : Option Nat} {C B : Nat} (h : MatX W w g a d cap rows) (hg : w.grownBy w' row) (hr : row = none ∨ OwnVC C B w (some ⟨g, 0, none⟩) n c out ∧ row = (Value.slice (some ⟨g, 0, none⟩) n c).ownBlock) (hn : g' = w.heap.size ∨ row = some g') : MatX W w' g' a d cap rows := by
  rcases h with h | ⟨gm, rfl, h2, h⟩
  · exact .inl h
  · have hb := (h.base_of gm rfl).2
    have hrow : row = none ∨ row = some g := by
      rcases hr with hr | ⟨hv, hr⟩
      · exact .inl hr
      · right; rw [hr]
        by_cases hc : c = 0
        · obtain ⟨_, vs, h3, _⟩ := hv
          rcases h3.2 with ⟨h3, _⟩ | ⟨g1, c1, cur, h3, _⟩
          · cases h3
          · rfl
        · rfl
    refine .inr ⟨gm, rfl, ?_, h.grown3 hg ?_ ?_⟩
    · rcases hn with hn | hn
      · omega
      · rcases hrow with e | e
        · rw [e] at hn; cases hn
        · rw [e] at hn; cases hn; exact h2
    · rcases hrow with e | e
      · rw [e]; exact fun h => by cases h
      · rw [e]; exact fun h => h2 (Option.some.inj h).symm
    · intro i ai ci _ hi k hk
      rcases hr with hr | ⟨hv, hr⟩
      · rw [hr]; exact fun h => by cases h
      · obtain ⟨_, vs, h3, _⟩ := hv
        rw [hr]; exact own_apart h3 hi k hk

/-- A list that can be read, whose rows are of the call's own. -/
def RdO (B : Nat) (w : World) (a : Option Addr) (n : Nat) (rows : List (List Int)) : Prop :=
  rows.length = n ∧ ∀ i, i < n → ∃ b off ai ci, a = some ⟨b, off, none⟩ ∧ w.cell? ⟨b, off + i, none⟩ = some (.slice ai (nthR rows i).length ci) ∧ OwnC B w ai (nthR rows i).length ci (nthR rows i)
theorem RdO.ext {B : Nat} {w w' : World} {a : Option Addr} {n : Nat} {rows : List (List Int)} (h : RdO B w a n rows) (he : Ext w w') : RdO B w' a n rows :=
  ⟨h.1, fun i hi => let ⟨b, off, ai, ci, ha, hc, hr⟩ := h.2 i hi; ⟨b, off, ai, ci, ha, he.cell hc, hr.ext he⟩⟩
theorem RdO.rd {B : Nat} {w : World} {a : Option Addr} {n : Nat} {rows : List (List Int)} (h : RdO B w a n rows) : RdR w a n rows :=
  ⟨h.1, fun i hi => let ⟨b, off, ai, ci, ha, hc, hr⟩ := h.2 i hi; ⟨b, off, ai, ci, ha, hc, hr.rd⟩⟩
theorem RdO.nil (B : Nat) (w : World) (a : Option Addr) : RdO B w a 0 [] := ⟨rfl, fun _ hi => absurd hi (Nat.not_lt_zero _)⟩
theorem OwnVC.ro {C B : Nat} {w : World} {a : Option Addr} {n cap : Nat} {rows : List (List Int)} (h : OwnVC C B w a n cap rows) : RdO C w a n rows := by
  obtain ⟨h1, vs, ⟨h2, h3⟩, h4⟩ := h
  refine ⟨h1, fun i hi => ?_⟩
  rcases h3 with ⟨_, h3⟩ | ⟨g, c, cur, hv, hb, hh, hc1, hc2, hc3, hc4⟩
  · omega
  · simp only [Value.slice.injEq] at hv
    obtain ⟨hv1, _, _⟩ := hv
    obtain ⟨ai, ci, h5, h6⟩ := h4 i hi
    refine ⟨g, 0, ai, ci, hv1, ?_, h6⟩
    rw [← hc4, List.getElem?_take_of_lt (by omega), Array.getElem?_toList] at h5
    simp only [World.cell?, hh]
    simpa using h5
theorem OwnXC.ro {C B : Nat} {w : World} {a : Option Addr} {n cap : Nat} {rows : List (List Int)} (h : OwnXC C B w a n cap rows) : RdO C w a n rows := by
  rcases h with ⟨rfl, _, rfl, _⟩ | h
  · exact RdO.nil _ _ _
  · exact h.ro
end Go.Proofs.YtcocbainookkcaaGreat

/-
  Inverses of multivectors from linear systems, in plain numbers.
  No condition. No program in sight.
-/
namespace Go.Proofs.YtcocbainookkcaaGreat
set_option maxRecDepth 100000
open Go.RowKit

theorem mul_blade {p : Int} {qs x : List Int} {i j : Nat} (hp : 1 ≤ p) (hi : i < 2 ^ qs.length) (hj : j < 2 ^ qs.length) :
    nth (prodL p qs tkA x (bladeL (2 ^ qs.length) j)) i = (nth x (i ^^^ j) * facZ qs (i ^^^ j) j qs.length) % p := by
  have hij := Nat.xor_lt_two_pow hi hj
  rw [prodA_nth hp hi, sumN_single hij (fun a ha hne => by
    have : ¬ j = a ^^^ i := fun h => hne (by rw [h, Nat.xor_comm a i, ← Nat.xor_assoc, Nat.xor_self, Nat.zero_xor])
    rw [bladeL_nth hj (Nat.xor_lt_two_pow ha hi), if_neg this]; simp)]
  have e : i ^^^ j ^^^ i = j := by rw [Nat.xor_comm i j, Nat.xor_assoc, Nat.xor_self, Nat.xor_zero]
  rw [e, bladeL_nth hj hj, if_pos rfl, Int.mul_one]
/-- The left matrix leads a multivector to the product. -/
theorem mat_dot {p : Int} {qs x y : List Int} {i : Nat} (hp : 1 ≤ p) (hd : qs.length ≤ 6) (hi : i < 2 ^ qs.length) :
    dotN (2 ^ qs.length) (nthR (matM p qs x true) i) y % p = nth (prodL p qs tkA x y) i := by
  unfold dotN matM
  rw [turnL_nth hi, prodA_nth hp hi, ← sumN_xor hd hi]
  refine sumN_emod fun m hm => ?_
  have him := Nat.xor_lt_two_pow hi hm
  rw [colL_nth him, colsM_nth him, mulC, if_pos rfl, mul_blade hp hi him]
  have e : i ^^^ (i ^^^ m) = m := by rw [← Nat.xor_assoc, Nat.xor_self, Nat.zero_xor]
  have e2 : m ^^^ i = i ^^^ m := Nat.xor_comm _ _
  rw [e, e2]
  have : nth x m * nth y (i ^^^ m) * facZ qs m (i ^^^ m) qs.length = nth x m * facZ qs m (i ^^^ m) qs.length * nth y (i ^^^ m) := by ac_rfl
  rw [this]
  exact mul_emod_congr (Int.emod_emod _ _) rfl

/-- The rows that tell whether a multivector has an inverse. -/
def invRed (p : Int) (qs x : List Int) : List (List Int) := redL p (2 ^ qs.length) (matM p qs x true) (bladeL (2 ^ qs.length) 0) (2 ^ qs.length)
def invOk (p : Int) (qs x : List Int) : Bool := okS (2 ^ qs.length) (invRed p qs x)
def invL (p : Int) (qs x : List Int) : List Int := solR (2 ^ qs.length) (invRed p qs x)
theorem inv_right {p : Int} {qs x : List Int} (hp : primeB p = true) (hd : qs.length ≤ 6) (h : invOk p qs x = true) :
    Good p (2 ^ qs.length) (invL p qs x) ∧ prodL p qs tkA x (invL p qs x) = bladeL (2 ^ qs.length) 0 := by
  have hpb := prime_bd hp
  have hN := pow_pos' qs.length
  have hML : (matM p qs x true).length = 2 ^ qs.length := matM_len _ _ _ _
  have hMG : RowsG p (2 ^ qs.length) (matM p qs x true) := matM_good (by omega)
  have hBG : Good p (matM p qs x true).length (bladeL (2 ^ qs.length) 0) := by rw [hML]; exact blade_good (by omega)
  have e : invL p qs x = solL (2 ^ qs.length) (basisL p (2 ^ qs.length + 1) (wideL (matM p qs x true) (bladeL (2 ^ qs.length) 0) (matM p qs x true).length)) := by
    unfold invL solR
    rw [show okS (2 ^ qs.length) (invRed p qs x) = true from h, if_pos rfl, hML]; rfl
  have hs := sol_spec (v := bladeL (2 ^ qs.length) 0) hp hMG hBG (by rw [hML]; exact h)
  rw [← e] at hs
  have hg : Good p (2 ^ qs.length) (invL p qs x) := by
    rw [e]
    obtain ⟨c, hb⟩ := basis_red hp (wideL_good hMG hBG (Nat.le_refl _))
    exact sol_good (by omega) hb.good
  refine ⟨hg, ext_nth (by rw [(prod_good (by omega)).1, bladeL_len]) fun i hi => ?_⟩
  rw [(prod_good (by omega)).1] at hi
  rw [← mat_dot (by omega) hd hi, hs i (by rw [hML]; exact hi)]
  have hb := (blade_good (p := p) (N := 2 ^ qs.length) (m := 0) (by omega)).2 i hi
  exact Int.emod_eq_of_lt hb.1 hb.2
theorem inv_left {p : Int} {qs x : List Int} (hp : primeB p = true) (hd : qs.length ≤ 6) (hx : Good p (2 ^ qs.length) x) (h : invOk p qs x = true) :
    prodL p qs tkA (invL p qs x) x = bladeL (2 ^ qs.length) 0 := by
  have hpb := prime_bd hp
  obtain ⟨h1, h2⟩ := inv_right hp hd h
  exact inv_both (by omega) hd hx h1 h2
theorem inv_iff {p : Int} {qs x y : List Int} (hp : primeB p = true) (hd : qs.length ≤ 6) (hy : Good p (2 ^ qs.length) y) (h : prodL p qs tkA x y = bladeL (2 ^ qs.length) 0) : invOk p qs x = true := by
  have hpb := prime_bd hp
  have hML : (matM p qs x true).length = 2 ^ qs.length := matM_len _ _ _ _
  have hMG : RowsG p (2 ^ qs.length) (matM p qs x true) := matM_good (by omega)
  have hBG : Good p (matM p qs x true).length (bladeL (2 ^ qs.length) 0) := by rw [hML]; exact blade_good (by omega)
  have := sol_exists hp hMG hBG hy.1 (fun i hi => by
    rw [hML] at hi
    rw [mat_dot (by omega) hd hi, h]
    have hb := (blade_good (p := p) (N := 2 ^ qs.length) (m := 0) (by omega)).2 i hi
    exact (Int.emod_eq_of_lt hb.1 hb.2).symm)
  rw [hML] at this
  exact this

/-- A tuple of a slice of the call's own and a bool. -/
def SPred.sol (B n : Nat) (xs : List Int) (b : Bool) : SPred := ⟨fun v w => ∃ ra rc, v = .tuple #[.slice ra n rc, .bool b] ∧ OwnC B w ra n rc xs, fun _ _ _ ⟨ra, rc, hv, h⟩ he => ⟨ra, rc, hv, h.ext he⟩⟩

end Go.Proofs.YtcocbainookkcaaGreat

/-
  Inverses of multivectors.
  No condition.
-/
namespace Go.Proofs.YtcocbainookkcaaGreat
set_option maxRecDepth 100000
open Go.RowKit



end Go.Proofs.YtcocbainookkcaaGreat

/-
  Reduced bases with one more list, in the reference.
  No condition.
-/
namespace Go.Proofs.YtcocbainookkcaaGreat
set_option maxRecDepth 100000
open Go.RowKit

theorem plus_scale_neg {p : Int} {x y : List Int} {k : Int} {n : Nat} : plusL p x (scaleL p y k n) (-1) n = plusL p x y (-k) n := by
  unfold plusL
  refine List.map_congr_left fun i hi => ?_
  have hi' : i < n := by simpa using hi
  unfold plusN
  rw [scaleL_nth hi', scaleN, Int.add_emod, Int.mul_emod, Int.emod_emod, ← Int.mul_emod, ← Int.add_emod]
  congr 1
  grind
set_option maxHeartbeats 400000 in
theorem s_first12 (a : Option Addr) (n cap : Nat) (xs : List Int) (w : World) (hl : n ≤ 4194303) (hx : RdC w a n xs) :
    Calls Tryz.prog 62 #[.slice a n cap] w fun e w' => e = .returned (.int .i64 (leadN xs)) ∧ Ext w w' := by
  have HX := Lib.hid hx
  clear hx
  go_enter Tryz.func62, Tryz.ntmps62
  go_wp2_with (fail)
  go_loopw [3] (fun i wr => ∃ k : Nat, k ≤ n ∧ i = .int .i64 k ∧ Hid (∀ j, j < k → nth xs j = 0) ∧ Ext w wr) (fun i _ => n - (intOf i).toNat)
  case atStart => exact ⟨0, Nat.zero_le _, rfl, Lib.hid (fun j hj => by omega), Ext.refl _⟩
  case round =>
    obtain ⟨k, hk, rfl, HT, hext⟩ := hrel
    by_cases hlt : k < n
    · obtain ⟨b, off, rfl, hc⟩ := HX.out.2 k hlt
      have hc' := hext.cell hc
      clear hc
      by_cases hz : nth xs k = 0
      · have HZ := Lib.hid hz
        have hzb : (nth xs k == 0) = true := by simp [hz]
        clear hz
        go_wp2_with (fail)
        go_roundw
        case rel => exact ⟨k + 1, by omega, by go_num, Lib.hid (fun j hj => by
          by_cases hjk : j = k
          · subst hjk; exact HZ.out
          · exact HT.out j (by omega)), hext⟩
        case measure => simp [intOf]; omega
      · have HZ := Lib.hid hz
        have hzb : (nth xs k == 0) = false := by simp [hz]
        clear hz
        go_wp2_with (fail)
        go_ret
        exact ⟨ret_int (by rw [leadN_eq (by rw [HX.out.1]; omega) HT.out (.inr HZ.out)]), hext⟩
    · go_wp2_with (fail)
      go_ret
      exact ⟨ret_int (by rw [leadN_eq (by rw [HX.out.1]; omega) HT.out (.inl (by rw [HX.out.1]; omega))]), hext⟩
set_option maxHeartbeats 4000000 in
set_option maxRecDepth 100000 in
theorem s_rest (p : Int) (ax : Option Addr) (n cap m : Nat) (rows : List (List Int)) (ay : Option Addr) (cy : Nat) (x : List Int) (c : Nat → Nat) (w : World) (hp1 : 3 ≤ p) (hp2 : p ≤ 13) (hm0 : 0 < m) (hm : m ≤ 4095) (hb : Basis p m rows c) (hx : RdR w ax n rows) (hy : RdC w ay m x) (hg : Good p m x) :
    Calls Tryz.prog 102 #[.int .i64 p, .slice ax n cap, .slice ay m cy] w fun e w' => ∃ g rc, e = .returned (.slice (some ⟨g, 0, none⟩) m rc) ∧ OwnC w.heap.size w' (some ⟨g, 0, none⟩) m rc (restL p m rows x) ∧ Ext w w' := by
  obtain ⟨by0, oy0, rfl, _⟩ := hy.2 0 hm0
  have HX := Lib.hid hx
  have HY := Lib.hid hy
  have HG := Lib.hid hg
  have HB := Lib.hid hb
  have hnm : n ≤ 4095 := by have := hb.len; have := hx.1; omega
  have HLN := Lib.hid hx.1
  clear hx hy hg hb
  go_enter Tryz.func102, Tryz.ntmps102
  go_wp2_with (fail)
  refine Calls.mono (s_own by0 oy0 m cy x w hm0 (by omega) HY.out) ?_
  rintro e w1 ⟨g1, c1, rfl, o1, x1⟩
  have HO1 := Lib.hid o1
  have X1 := Lib.hid x1
  clear o1 x1
  go_wp2_with (fail)
  go_loopw [7, 8] (fun v i wr => ∃ (k g rc : Nat), k ≤ n ∧ i = .int .i64 k ∧ v = .slice (some ⟨g, 0, none⟩) m rc ∧ Hid (OwnC w.heap.size wr (some ⟨g, 0, none⟩) m rc (restS p m rows x k)) ∧ Hid (Ext w wr)) (fun _ i _ => n - (intOf i).toNat)
  case atStart => exact ⟨0, _, _, Nat.zero_le _, rfl, rfl, HO1, X1⟩
  case round =>
    obtain ⟨k, g, rc, hk, rfl, rfl, HO, HE⟩ := hrel
    clear HO1 X1
    by_cases hlt : k < n
    · obtain ⟨b, off, ai, ci, rfl, hc, hri⟩ := HX.out.2 k hlt
      have hkl : k < rows.length := by rw [HLN.out]; exact hlt
      have hl := (HB.out.good k hkl).1
      rw [hl] at hc hri
      have HGR := Lib.hid (HB.out.good k hkl)
      have hlead : leadN (nthR rows k) < m := by rw [HB.out.leadN hkl]; exact HB.out.clt k hkl
      have hc' := HE.out.cell hc
      have HRi := Lib.hid (hri.ext HE.out)
      have HGS := Lib.hid (restS_good (rows := rows) (by omega : 1 ≤ p) HG.out k)
      have HSZ : Hid (nth (restS p m rows x k) (leadN (nthR rows k)) = 0 → restS p m rows x (k + 1) = restS p m rows x k) := Lib.hid (fun h => restS_zero (by omega) HG.out h)
      have HSN : Hid (restS p m rows x (k + 1) = plusL p (restS p m rows x k) (nthR rows k) (-(nth (restS p m rows x k) (leadN (nthR rows k)))) m) := Lib.hid rfl
      obtain ⟨S, hS⟩ : ∃ s, s = restS p m rows x k := ⟨_, rfl⟩
      rw [← hS] at HO HGS HSZ HSN
      obtain ⟨L, hL⟩ : ∃ s, s = leadN (nthR rows k) := ⟨_, rfl⟩
      have HL := Lib.hid hL.symm
      rw [← hL] at hlead HSZ HSN
      obtain ⟨u, hu⟩ : ∃ s, s = nth S L := ⟨_, rfl⟩
      have hub : 0 ≤ u ∧ u < p := by rw [hu]; exact HGS.out.2 L hlead
      rw [← hu] at HSZ HSN
      have HU := Lib.hid hu.symm
      clear hc hri hl hS hL hu
      go_wp2_with (fail)
      refine Calls.mono (s_first12 ai m ci (nthR rows k) _ (by omega) HRi.out) ?_
      rintro e w2 ⟨rfl, x2⟩
      rw [HL.out]
      have hcl := (HO.out.ext x2).cell hlead
      rw [HU.out] at hcl
      have hc2 := x2.cell hc'
      have HO2 := Lib.hid (HO.out.ext x2)
      have HE2 := Lib.hid (HE.out.trans x2)
      have HRi2 := Lib.hid (HRi.out.ext x2)
      clear x2 hc'
      by_cases hz : u = 0
      · subst hz
        have hzb : ((0 : Int) != 0) = false := by simp
        have HZ := Lib.hid (HSZ.out rfl)
        go_wp2_with (fail)
        go_roundw
        case rel => exact ⟨k + 1, g, rc, by omega, by go_num, rfl, Lib.hid (by rw [HZ.out]; exact HO2.out), HE2⟩
        case measure => simp [intOf]; omega
      · have hzb : (u != 0) = true := by simp [hz]
        go_wp2_with (fail)
        refine Calls.mono (s_scale11 p ai m ci (nthR rows k) u _ (by omega) (by omega) (by omega) (by omega) HRi2.out HGR.out) ?_
        rintro e w3 ⟨g3, c3, rfl, o3, x3⟩
        have HO3 := Lib.hid o3
        have X3 := Lib.hid x3
        clear o3 x3 hcl hc2
        go_wp2_with (fail)
        refine Calls.mono (s_minus11 p _ _ m rc c3 S (scaleL p (nthR rows k) u m) _ (by omega) (by omega) (by omega) (HO2.out.rd.ext X3.out) HO3.out.rd (fun i hi => by have := HGS.out.2 i hi; omega) (scale_good (by omega))) ?_
        rintro e w4 ⟨g4, c4, rfl, o4, x4⟩
        have HO4 := Lib.hid ((o4.mono (B' := w2.heap.size) X3.out.size).mono HE2.out.size)
        have HE4 := Lib.hid ((HE2.out.trans X3.out).trans x4)
        clear o4 x4
        go_wp2_with (fail)
        go_roundw
        case rel => exact ⟨k + 1, g4, c4, by omega, by go_num, rfl, Lib.hid (by rw [HSN.out, ← plus_scale_neg]; exact HO4.out), HE4⟩
        case measure => simp [intOf]; omega
    · obtain rfl : k = n := by omega
      go_wp2_with (fail)
      go_ret
      exact ⟨_, _, rfl, by rw [restL, HLN.out]; exact HO.out, HE.out⟩
set_option maxHeartbeats 16000000 in
set_option maxRecDepth 100000 in
theorem s_put12 (p : Int) (ax : Option Addr) (n cap m : Nat) (rows : List (List Int)) (ay : Option Addr) (cy : Nat) (x : List Int) (c : Nat → Nat) (B : Nat) (w : World) (hpr : primeB p = true) (hm0 : 0 < m) (hm : m ≤ 4095) (hb : Basis p m rows c) (hB : B ≤ w.heap.size) (hx : RdO B w ax n rows) (hy : RdC w ay m x) (hg : Good p m x) :
    Calls Tryz.prog 85 #[.int .i64 p, .slice ax n cap, .slice ay m cy] w fun e w' => ∃ ra rn rc, e = .returned (.slice ra rn rc) ∧ (ra = ax ∨ ∃ g, ra = some ⟨g, 0, none⟩) ∧ RdO B w' ra rn (putL p m rows x) ∧ Ext w w' := by
  have hpb := prime_bd hpr
  have HX := Lib.hid hx
  have HY := Lib.hid hy
  have HG := Lib.hid hg
  have HB := Lib.hid hb
  have hnm : n ≤ 4095 := by have := hb.len; have := hx.1; omega
  have HLN := Lib.hid hx.1
  have HPR := Lib.hid hpr
  clear hx hy hg hb hpr
  go_enter Tryz.func85, Tryz.ntmps85
  go_wp2_with (fail)
  refine Calls.mono (s_rest p ax n cap m rows ay cy x c w (by omega) (by omega) hm0 hm HB.out HX.out.rd HY.out HG.out) ?_
  rintro e w1 ⟨gR, cR, rfl, o1, x1⟩
  have HPL : Hid (putL p m rows x = if leadN (restL p m rows x) = m then rows else putP p m rows (oneL p m (restL p m rows x)) (leadN (restL p m rows x)) (insQ rows (leadN (restL p m rows x))) (rows.length + 1)) := Lib.hid rfl
  have HGR0 : Hid (Good p m (restL p m rows x)) := Lib.hid (restS_good (by omega) HG.out _)
  obtain ⟨R, hR⟩ : ∃ s, s = restL p m rows x := ⟨_, rfl⟩
  rw [← hR] at HPL o1 HGR0
  have HO1 := Lib.hid o1
  have X1 := Lib.hid x1
  clear o1 x1 hR
  go_wp2_with (fail)
  refine Calls.mono (s_first12 _ m cR R _ (by omega) HO1.out.rd) ?_
  rintro e w2 ⟨rfl, x2⟩
  have HO2 := Lib.hid (HO1.out.ext x2)
  have X2 := Lib.hid (X1.out.trans x2)
  have htm : leadN R ≤ m := by have := leadN_le R; rw [HGR0.out.1] at this; exact this
  have HTN : Hid (leadN R ≠ m → nth R (leadN R) ≠ 0) := Lib.hid (fun h => leadN_ne (by rw [HGR0.out.1]; omega))
  obtain ⟨t, ht⟩ : ∃ s, s = leadN R := ⟨_, rfl⟩
  rw [← ht] at HPL htm HTN ⊢
  have HT := Lib.hid ht.symm
  clear x2 ht
  by_cases hz : t = m
  · subst hz
    have HP2 := Lib.hid (HPL.out.trans (if_pos rfl))
    go_wp2_with (fail)
    go_ret
    exact ⟨_, _, _, rfl, .inl rfl, by rw [HP2.out]; exact HX.out.ext X2.out, X2.out⟩
  have htl : t < m := by omega
  have hzi : ¬ (t : Int) = (m : Int) := by omega
  have HP2 := Lib.hid (HPL.out.trans (if_neg hz))
  have hub := HGR0.out.2 t htl
  have hun := HTN.out hz
  have hct := HO2.out.cell htl
  obtain ⟨y, hy⟩ : ∃ s, s = nth R t := ⟨_, rfl⟩
  rw [← hy] at hub hun hct
  have HYv := Lib.hid hy
  obtain ⟨iv, hiv⟩ : ∃ s, s = invN p y := ⟨_, rfl⟩
  have HIV := Lib.hid hiv
  have hib : 0 ≤ iv ∧ iv < p := by rw [hiv]; exact invN_bd (by omega)
  clear hy hiv
  go_wp2_with (fail)
  refine Calls.mono (s_inv p y _ HPR.out (by omega) (by omega)) ?_
  rintro e w3 ⟨rfl, x3⟩
  rw [← HIV.out]
  have HO3 := Lib.hid (HO2.out.ext x3)
  have X3 := Lib.hid (X2.out.trans x3)
  clear x3 hct
  go_wp2_with (fail)
  refine Calls.mono (s_scale11 p _ m cR R iv _ (by omega) (by omega) (by omega) (by omega) HO3.out.rd HGR0.out) ?_
  rintro e w4 ⟨gr, cr, rfl, o4, x4⟩
  have HON : Hid (scaleL p R iv m = oneL p m R) := Lib.hid (by rw [HIV.out, HYv.out, ← HT.out]; rfl)
  rw [HON.out] at o4
  have HGr : Hid (Good p m (oneL p m R)) := Lib.hid (scale_good (by omega))
  obtain ⟨r, hr⟩ : ∃ s, s = oneL p m R := ⟨_, rfl⟩
  rw [← hr] at HGr HP2 o4
  have HR4 := Lib.hid ((o4.mono X3.out.size).mono hB)
  have X4 := Lib.hid (X3.out.trans x4)
  obtain ⟨q, hq⟩ : ∃ s, s = insQ rows t := ⟨_, rfl⟩
  have hqn : q ≤ n := by rw [hq, ← HLN.out]; exact insQ_le _ _
  have HQI : Hid (∀ i, i < n → (t < leadN (nthR rows i) ↔ q ≤ i)) := Lib.hid (fun i hi => by rw [hq, HB.out.leadN (by rw [HLN.out]; exact hi)]; exact insQ_iff HB.out t (by rw [HLN.out]; exact hi))
  rw [← hq, HLN.out] at HP2
  clear o4 x4 hr hq HON HIV HYv HT HTN HPL HO1 HO2 HO3 X1 X2 X3 HGR0 hun hub hib
  go_wp2_with (fail)
  obtain ⟨W3, hW3⟩ : ∃ s, s = w4.alloc (.cells #[] 24) := ⟨_, rfl⟩
  have hz3 : w4.heap.size < W3.heap.size := by rw [hW3]; simp
  have G3 : Hid (Ext w4 W3) := Lib.hid (by rw [hW3]; exact ext_alloc _ _)
  have HW3 := Lib.hid hW3
  rw [← hW3]
  clear hW3
  have hBW : B ≤ W3.heap.size := Nat.le_trans hB (Nat.le_trans X4.out.size G3.out.size)
  have HRr := Lib.hid (HR4.out.ext G3.out)
  go_loopw [9, 10, 11] (fun v f i wr => ∃ (k k2 g rc : Nat), k ≤ n ∧ i = .int .i64 k ∧ k2 = k + (if q < k then 1 else 0) ∧ v = .slice (some ⟨g, 0, none⟩) k2 rc ∧ f = .bool (decide (q < k)) ∧ Hid (OwnXC B W3.heap.size wr (some ⟨g, 0, none⟩) k2 rc (putP p m rows r t q k2)) ∧ Hid (Ext W3 wr)) (fun _ _ i _ => n - (intOf i).toNat)
  case atStart => exact ⟨0, 0, _, 0, Nat.zero_le _, rfl, by simp, rfl, by simp, Lib.hid (.inl ⟨rfl, rfl, rfl, _, rfl, hz3⟩), Lib.hid (Ext.refl _)⟩
  case round =>
    obtain ⟨k, k2, g, rc, hk, rfl, hk2, rfl, rfl, HO, HE⟩ := hrel
    by_cases hlt : k < n
    · obtain ⟨b, off, ai, ci, rfl, hc, hri⟩ := HX.out.2 k hlt
      have hkl : k < rows.length := by rw [HLN.out]; exact hlt
      have hl := (HB.out.good k hkl).1
      rw [hl] at hc hri
      have HGR := Lib.hid (HB.out.good k hkl)
      have hut : 0 ≤ nth (nthR rows k) t ∧ nth (nthR rows k) t < p := HGR.out.2 t htl
      obtain ⟨bi, oi, rfl, hcb⟩ := hri.rd.2 t htl
      have HQk := Lib.hid (HQI.out k hlt)
      have HU : Hid (∀ j, j ≠ q → (if j < q then j else j - 1) = k → putN p m rows r t q j = plusL p (nthR rows k) r (-(nth (nthR rows k) t)) m) := Lib.hid (fun j hj h => by
        unfold putN
        by_cases h1 : j < q
        · rw [if_pos h1] at h ⊢; rw [h]
        · rw [if_neg h1] at h ⊢; rw [if_neg hj, h])
      obtain ⟨u, hu⟩ : ∃ s, s = nth (nthR rows k) t := ⟨_, rfl⟩
      rw [← hu] at hut hcb HU
      have HC0 := Lib.hid ((X4.out.trans G3.out).cell hc)
      have HCb0 := Lib.hid ((X4.out.trans G3.out).cell hcb)
      have HRi0 := Lib.hid (hri.rd.ext (X4.out.trans G3.out))
      clear hc hri hl hu hcb
      by_cases hqk : q < k
      · have hqd : decide (q < k) = true := by simpa using hqk
        have hkk : k2 = k + 1 := by rw [hk2, if_pos hqk]
        subst hkk
        have hcx := HE.out.cell HC0.out
        have HEn := HE
        rename World => wr
        go_wp2_with (fail)
        clear hcx hqd hk2
        have HCA := Lib.hid ((HEn.out.trans (ext_drew wr)).cell HC0.out)
        have HCB := Lib.hid ((HEn.out.trans (ext_drew wr)).cell HCb0.out)
        have HRiw := Lib.hid (HRi0.out.ext (HEn.out.trans (ext_drew wr)))
        have HRw := Lib.hid (HRr.out.ext (HEn.out.trans (ext_drew wr)))
        refine wp_region_lex_tail1 17 [(15, .ownS wr.drew.heap.size m (scaleL p r u m)), (16, .ownS wr.drew.heap.size m (plusL p (nthR rows k) (scaleL p r u m) (-1) m))] (.slice (some ⟨g, 0, none⟩) (k + 1) rc) (by kernel_rfl) (by kernel_rfl) rfl rfl (fun w1 => by go_simp) ?_
        simp only [List.take, List.drop]
        simp only [Act.put, List.setIfInBounds_toArray, List.set_cons_zero, List.set_cons_succ]
        (refine LexW.pure (v := ?_) rfl rfl (fun w1 he => ?_) ?_; rotate_left; ( have e1 := he.cell HCA.out; have e2 := he.cell HCB.out; go_simp; rfl); simp only [Act.put, List.setIfInBounds_toArray, List.set_cons_zero, List.set_cons_succ])
        (refine LexW.pure (v := ?_) rfl rfl (fun w1 he => ?_) ?_; rotate_left; ( have e1 := he.cell HCA.out; have e2 := he.cell HCB.out; go_simp; rfl); simp only [Act.put, List.setIfInBounds_toArray, List.set_cons_zero, List.set_cons_succ])
        (refine LexW.pure (v := ?_) rfl rfl (fun w1 he => ?_) ?_; rotate_left; ( have e1 := he.cell HCA.out; have e2 := he.cell HCB.out; go_simp; rfl); simp only [Act.put, List.setIfInBounds_toArray, List.set_cons_zero, List.set_cons_succ])
        (refine LexW.pure (v := ?_) rfl rfl (fun w1 he => ?_) ?_; rotate_left; ( have e1 := he.cell HCA.out; have e2 := he.cell HCB.out; go_simp; rfl); simp only [Act.put, List.setIfInBounds_toArray, List.set_cons_zero, List.set_cons_succ])
        (refine LexW.pure (v := ?_) rfl rfl (fun w1 he => ?_) ?_; rotate_left; ( have e1 := he.cell HCA.out; have e2 := he.cell HCB.out; go_simp; rfl); simp only [Act.put, List.setIfInBounds_toArray, List.set_cons_zero, List.set_cons_succ])
        (refine LexW.pure (v := ?_) rfl rfl (fun w1 he => ?_) ?_; rotate_left; ( have e1 := he.cell HCA.out; have e2 := he.cell HCB.out; go_simp; rfl); simp only [Act.put, List.setIfInBounds_toArray, List.set_cons_zero, List.set_cons_succ])
        (refine LexW.pure (v := ?_) rfl rfl (fun w1 he => ?_) ?_; rotate_left; ( have e1 := he.cell HCA.out; have e2 := he.cell HCB.out; go_simp; rfl); simp only [Act.put, List.setIfInBounds_toArray, List.set_cons_zero, List.set_cons_succ])
        (refine LexW.pure (v := ?_) rfl rfl (fun w1 he => ?_) ?_; rotate_left; ( have e1 := he.cell HCA.out; have e2 := he.cell HCB.out; go_simp; rfl); simp only [Act.put, List.setIfInBounds_toArray, List.set_cons_zero, List.set_cons_succ])
        (refine LexW.pure (v := ?_) rfl rfl (fun w1 he => ?_) ?_; rotate_left; ( have e1 := he.cell HCA.out; have e2 := he.cell HCB.out; go_simp; rfl); simp only [Act.put, List.setIfInBounds_toArray, List.set_cons_zero, List.set_cons_succ])
        (refine LexW.pure (v := ?_) rfl rfl (fun w1 he => ?_) ?_; rotate_left; ( have e1 := he.cell HCA.out; have e2 := he.cell HCB.out; go_simp; rfl); simp only [Act.put, List.setIfInBounds_toArray, List.set_cons_zero, List.set_cons_succ])
        (refine LexW.pure (v := ?_) rfl rfl (fun w1 he => ?_) ?_; rotate_left; ( have e1 := he.cell HCA.out; have e2 := he.cell HCB.out; go_simp; rfl); simp only [Act.put, List.setIfInBounds_toArray, List.set_cons_zero, List.set_cons_succ])
        (refine LexW.pure (v := ?_) rfl rfl (fun w1 he => ?_) ?_; rotate_left; ( have e1 := he.cell HCA.out; have e2 := he.cell HCB.out; go_simp; rfl); simp only [Act.put, List.setIfInBounds_toArray, List.set_cons_zero, List.set_cons_succ])
        (refine LexW.pure (v := ?_) rfl rfl (fun w1 he => ?_) ?_; rotate_left; ( have e1 := he.cell HCA.out; have e2 := he.cell HCB.out; go_simp; rfl); simp only [Act.put, List.setIfInBounds_toArray, List.set_cons_zero, List.set_cons_succ])
        (refine LexW.pure (v := ?_) rfl rfl (fun w1 he => ?_) ?_; rotate_left; ( have e1 := he.cell HCA.out; have e2 := he.cell HCB.out; go_simp; rfl); simp only [Act.put, List.setIfInBounds_toArray, List.set_cons_zero, List.set_cons_succ])
        (refine LexW.callR (f := ?_) (args := ?_) rfl rfl (fun w1 => ?_) (fun w1 he hdep => ?_) (fun v hv => ?_); rotate_left 2; (go_simp; refine ⟨?_, ?_⟩ <;> rfl); ( refine (s_scale11 p (some ⟨gr, 0, none⟩) m cr r u w1 (by omega) (by omega) (by omega) (by omega) (HRw.out.rd.ext he) HGr.out).mono ?_; rintro e w2 ⟨g, rc, rfl, ho, g2⟩; exact ⟨_, rfl, g2, g, rc, rfl, ho.mono he.size⟩); simp only [Act.put, List.setIfInBounds_toArray, List.set_cons_zero, List.set_cons_succ])
        obtain ⟨_, g69, c69, rfl, _⟩ := hv
        (refine LexW.callR (f := ?_) (args := ?_) rfl rfl (fun w1 => ?_) (fun w1 he hdep => ?_) (fun v hv => ?_); rotate_left 2; (go_simp; refine ⟨?_, ?_⟩ <;> rfl); ( obtain ⟨_, _, q69, r69⟩ : (SPred.ownS wr.drew.heap.size m (scaleL p r u m)).holds (.slice (some ⟨g69, 0, none⟩) m c69) w1 := hdep (15, 69) (by decide +kernel); cases q69; refine (s_minus11 p (some ⟨bi, oi, none⟩) _ m ci c69 (nthR rows k) (scaleL p r u m) w1 (by omega) (by omega) (by omega) (HRiw.out.ext he) r69.rd (fun i hi => by have := HGR.out.2 i hi; omega) (scale_good (by omega))).mono ?_; rintro e w2 ⟨g, rc, rfl, ho, g2⟩; exact ⟨_, rfl, g2, g, rc, rfl, ho.mono he.size⟩); simp only [Act.put, List.setIfInBounds_toArray, List.set_cons_zero, List.set_cons_succ])
        obtain ⟨_, g70, c70, rfl, _⟩ := hv
        refine LexW.nil (fun w3 he hkn => ?_)
        obtain ⟨_, _, q70, r70⟩ : (SPred.ownS wr.drew.heap.size m (plusL p (nthR rows k) (scaleL p r u m) (-1) m)).holds (.slice (some ⟨g70, 0, none⟩) m c70) w3 := hkn (16, _) (by simp)
        cases q70
        have R70 := Lib.hid r70
        have HZ := Lib.hid he
        clear he hkn r70
        have HG70 := Lib.hid (show Good p m (plusL p (nthR rows k) (scaleL p r u m) (-1) m) from plus_good (by omega))
        have HZ2 := Lib.hid ((ext_drew wr).trans HZ.out)
        have R70b : Hid (OwnC B _ (some ⟨g70, 0, none⟩) m c70 (plusL p (nthR rows k) (scaleL p r u m) (-1) m)) := Lib.hid (R70.out.mono (Nat.le_trans hBW (HEn.out.trans (ext_drew wr)).size))
        rename World => w9
        go_wp2_with (at_builtin; refine wpList_appendX rfl (.tmp 54) (.tmp 71) rfl (C := B) (B := W3.heap.size) (rows2 := [plusL p (nthR rows k) (scaleL p r u m) (-1) m]) (us := [.slice (some ⟨g70, 0, none⟩) m c70]) (m := 1) rfl rfl ((HO.out.ext HZ2.out).ext (ext_alloc _ _)) rfl rfl ?hc ?hx (by omega) (by omega) (by omega) ?hb ?hk)
        case hc =>
          intro j v hj
          match j, hj with
          | 0, hj => simp only [List.getElem?_cons_zero, Option.some.injEq] at hj; subst hj; simp
        case hx =>
          intro i hi
          obtain rfl : i = 0 := by omega
          refine ⟨(some ⟨g70, 0, none⟩), c70, ?_, ?_⟩
          · show _ = some (Value.slice _ (plusL p (nthR rows k) (scaleL p r u m) (-1) m).length _)
            rw [HG70.out.1]; rfl
          · show OwnC _ _ _ (plusL p (nthR rows k) (scaleL p r u m) (-1) m).length _ (plusL p (nthR rows k) (scaleL p r u m) (-1) m)
            rw [HG70.out.1]
            exact R70b.out.ext (ext_alloc _ _)
        case hb => exact Nat.le_trans HEn.out.size (Nat.le_trans HZ2.out.size (ext_alloc _ _).size)
        case hk =>
          intro g5 c5 w5 row ho5 _ _ _ he5
          have HE5 := Lib.hid (he5 W3 (Nat.le_refl _) ((HEn.out.trans HZ2.out).alloc _))
          have HO5 := Lib.hid ho5
          clear ho5 he5
          go_wp2_with (fail)
          refine strictQ_normal ?_
          go_wp2_with (fail)
          go_roundw
          case rel => exact ⟨k + 1, k + 2, g5, c5, by omega, by go_num, (by rw [if_pos (by omega)]), rfl, by simp; omega, Lib.hid (by rw [putP_succ, HU.out _ (by omega) (by rw [if_neg (by omega)]; omega), ← plus_scale_neg]; exact .inr HO5.out), HE5⟩
          case measure => simp [intOf]; omega
      · have hqd : decide (q < k) = false := by simpa using hqk
        have hkk : k2 = k := by rw [hk2, if_neg hqk]; rfl
        subst hkk
        have hcx := HE.out.cell HC0.out
        have HRif := Lib.hid (HRi0.out.ext HE.out)
        obtain ⟨L, hL⟩ : ∃ s, s = leadN (nthR rows k2) := ⟨_, rfl⟩
        have HL := Lib.hid hL.symm
        rw [← hL] at HQk
        clear hL hk2
        go_wp2_with (fail)
        refine Calls.mono (s_first12 _ m ci (nthR rows k2) _ (by omega) HRif.out) ?_
        rintro e w6 ⟨rfl, x6⟩
        rw [HL.out]
        have XW := Lib.hid x6
        clear x6 hcx
        by_cases hqe : q ≤ k2
        · obtain rfl : q = k2 := by omega
          have hgt : t < L := HQk.out.2 (Nat.le_refl _)
          have hgi : (t : Int) < (L : Int) := by omega
          have hgd : decide ((t : Int) < (L : Int)) = true := by simpa using hgi
          go_wp2_with (at_builtin; refine wpList_appendX rfl (.tmp 50) (.tmp 52) rfl (C := B) (B := W3.heap.size) (rows2 := [r]) (us := [.slice (some ⟨gr, 0, none⟩) m cr]) (m := 1) rfl rfl ((HO.out.ext XW.out).ext (ext_alloc _ _)) rfl rfl ?hc ?hx (by omega) (by omega) (by omega) ?hb ?hk)
          case hc =>
            intro j v hj
            match j, hj with
            | 0, hj => simp only [List.getElem?_cons_zero, Option.some.injEq] at hj; subst hj; simp
          case hx =>
            intro i hi
            obtain rfl : i = 0 := by omega
            refine ⟨(some ⟨gr, 0, none⟩), cr, ?_, ?_⟩
            · show _ = some (Value.slice _ r.length _)
              rw [HGr.out.1]; rfl
            · show OwnC _ _ _ r.length _ r
              rw [HGr.out.1]
              exact (HRr.out.ext (HE.out.trans XW.out)).ext (ext_alloc _ _)
          case hb => exact Nat.le_trans HE.out.size (Nat.le_trans XW.out.size (ext_alloc _ _).size)
          case hk =>
            intro gq cq w5 row ho5 _ _ _ he5
            have HEn := Lib.hid (he5 W3 (Nat.le_refl _) ((HE.out.trans XW.out).alloc _))
            have HO7 := Lib.hid (show OwnXC B W3.heap.size w5 (some ⟨gq, 0, none⟩) (q + 1) cq (putP p m rows r t q (q + 1)) by rw [putP_succ, show putN p m rows r t q q = r by rw [putN, if_neg (Nat.lt_irrefl _), if_pos rfl]]; exact .inr ho5)
            clear ho5 he5 hqd hgd hgi
            go_wp2_with (fail)
            have HCA := Lib.hid ((HEn.out.trans (ext_drew w5)).cell HC0.out)
            have HCB := Lib.hid ((HEn.out.trans (ext_drew w5)).cell HCb0.out)
            have HRiw := Lib.hid (HRi0.out.ext (HEn.out.trans (ext_drew w5)))
            have HRw := Lib.hid (HRr.out.ext (HEn.out.trans (ext_drew w5)))
            refine wp_region_lex_tail1 17 [(15, .ownS w5.drew.heap.size m (scaleL p r u m)), (16, .ownS w5.drew.heap.size m (plusL p (nthR rows q) (scaleL p r u m) (-1) m))] (.slice (some ⟨gq, 0, none⟩) (q + 1) cq) (by kernel_rfl) (by kernel_rfl) rfl rfl (fun w1 => by go_simp) ?_
            simp only [List.take, List.drop]
            simp only [Act.put, List.setIfInBounds_toArray, List.set_cons_zero, List.set_cons_succ]
            (refine LexW.pure (v := ?_) rfl rfl (fun w1 he => ?_) ?_; rotate_left; ( have e1 := he.cell HCA.out; have e2 := he.cell HCB.out; go_simp; rfl); simp only [Act.put, List.setIfInBounds_toArray, List.set_cons_zero, List.set_cons_succ])
            (refine LexW.pure (v := ?_) rfl rfl (fun w1 he => ?_) ?_; rotate_left; ( have e1 := he.cell HCA.out; have e2 := he.cell HCB.out; go_simp; rfl); simp only [Act.put, List.setIfInBounds_toArray, List.set_cons_zero, List.set_cons_succ])
            (refine LexW.pure (v := ?_) rfl rfl (fun w1 he => ?_) ?_; rotate_left; ( have e1 := he.cell HCA.out; have e2 := he.cell HCB.out; go_simp; rfl); simp only [Act.put, List.setIfInBounds_toArray, List.set_cons_zero, List.set_cons_succ])
            (refine LexW.pure (v := ?_) rfl rfl (fun w1 he => ?_) ?_; rotate_left; ( have e1 := he.cell HCA.out; have e2 := he.cell HCB.out; go_simp; rfl); simp only [Act.put, List.setIfInBounds_toArray, List.set_cons_zero, List.set_cons_succ])
            (refine LexW.pure (v := ?_) rfl rfl (fun w1 he => ?_) ?_; rotate_left; ( have e1 := he.cell HCA.out; have e2 := he.cell HCB.out; go_simp; rfl); simp only [Act.put, List.setIfInBounds_toArray, List.set_cons_zero, List.set_cons_succ])
            (refine LexW.pure (v := ?_) rfl rfl (fun w1 he => ?_) ?_; rotate_left; ( have e1 := he.cell HCA.out; have e2 := he.cell HCB.out; go_simp; rfl); simp only [Act.put, List.setIfInBounds_toArray, List.set_cons_zero, List.set_cons_succ])
            (refine LexW.pure (v := ?_) rfl rfl (fun w1 he => ?_) ?_; rotate_left; ( have e1 := he.cell HCA.out; have e2 := he.cell HCB.out; go_simp; rfl); simp only [Act.put, List.setIfInBounds_toArray, List.set_cons_zero, List.set_cons_succ])
            (refine LexW.pure (v := ?_) rfl rfl (fun w1 he => ?_) ?_; rotate_left; ( have e1 := he.cell HCA.out; have e2 := he.cell HCB.out; go_simp; rfl); simp only [Act.put, List.setIfInBounds_toArray, List.set_cons_zero, List.set_cons_succ])
            (refine LexW.pure (v := ?_) rfl rfl (fun w1 he => ?_) ?_; rotate_left; ( have e1 := he.cell HCA.out; have e2 := he.cell HCB.out; go_simp; rfl); simp only [Act.put, List.setIfInBounds_toArray, List.set_cons_zero, List.set_cons_succ])
            (refine LexW.pure (v := ?_) rfl rfl (fun w1 he => ?_) ?_; rotate_left; ( have e1 := he.cell HCA.out; have e2 := he.cell HCB.out; go_simp; rfl); simp only [Act.put, List.setIfInBounds_toArray, List.set_cons_zero, List.set_cons_succ])
            (refine LexW.pure (v := ?_) rfl rfl (fun w1 he => ?_) ?_; rotate_left; ( have e1 := he.cell HCA.out; have e2 := he.cell HCB.out; go_simp; rfl); simp only [Act.put, List.setIfInBounds_toArray, List.set_cons_zero, List.set_cons_succ])
            (refine LexW.pure (v := ?_) rfl rfl (fun w1 he => ?_) ?_; rotate_left; ( have e1 := he.cell HCA.out; have e2 := he.cell HCB.out; go_simp; rfl); simp only [Act.put, List.setIfInBounds_toArray, List.set_cons_zero, List.set_cons_succ])
            (refine LexW.pure (v := ?_) rfl rfl (fun w1 he => ?_) ?_; rotate_left; ( have e1 := he.cell HCA.out; have e2 := he.cell HCB.out; go_simp; rfl); simp only [Act.put, List.setIfInBounds_toArray, List.set_cons_zero, List.set_cons_succ])
            (refine LexW.pure (v := ?_) rfl rfl (fun w1 he => ?_) ?_; rotate_left; ( have e1 := he.cell HCA.out; have e2 := he.cell HCB.out; go_simp; rfl); simp only [Act.put, List.setIfInBounds_toArray, List.set_cons_zero, List.set_cons_succ])
            (refine LexW.callR (f := ?_) (args := ?_) rfl rfl (fun w1 => ?_) (fun w1 he hdep => ?_) (fun v hv => ?_); rotate_left 2; (go_simp; refine ⟨?_, ?_⟩ <;> rfl); ( refine (s_scale11 p (some ⟨gr, 0, none⟩) m cr r u w1 (by omega) (by omega) (by omega) (by omega) (HRw.out.rd.ext he) HGr.out).mono ?_; rintro e w2 ⟨g, rc, rfl, ho, g2⟩; exact ⟨_, rfl, g2, g, rc, rfl, ho.mono he.size⟩); simp only [Act.put, List.setIfInBounds_toArray, List.set_cons_zero, List.set_cons_succ])
            obtain ⟨_, g69, c69, rfl, _⟩ := hv
            (refine LexW.callR (f := ?_) (args := ?_) rfl rfl (fun w1 => ?_) (fun w1 he hdep => ?_) (fun v hv => ?_); rotate_left 2; (go_simp; refine ⟨?_, ?_⟩ <;> rfl); ( obtain ⟨_, _, q69, r69⟩ : (SPred.ownS w5.drew.heap.size m (scaleL p r u m)).holds (.slice (some ⟨g69, 0, none⟩) m c69) w1 := hdep (15, 69) (by decide +kernel); cases q69; refine (s_minus11 p (some ⟨bi, oi, none⟩) _ m ci c69 (nthR rows q) (scaleL p r u m) w1 (by omega) (by omega) (by omega) (HRiw.out.ext he) r69.rd (fun i hi => by have := HGR.out.2 i hi; omega) (scale_good (by omega))).mono ?_; rintro e w2 ⟨g, rc, rfl, ho, g2⟩; exact ⟨_, rfl, g2, g, rc, rfl, ho.mono he.size⟩); simp only [Act.put, List.setIfInBounds_toArray, List.set_cons_zero, List.set_cons_succ])
            obtain ⟨_, g70, c70, rfl, _⟩ := hv
            refine LexW.nil (fun w3 he hkn => ?_)
            obtain ⟨_, _, q70, r70⟩ : (SPred.ownS w5.drew.heap.size m (plusL p (nthR rows q) (scaleL p r u m) (-1) m)).holds (.slice (some ⟨g70, 0, none⟩) m c70) w3 := hkn (16, _) (by simp)
            cases q70
            have R70 := Lib.hid r70
            have HZ := Lib.hid he
            clear he hkn r70
            have HG70 := Lib.hid (show Good p m (plusL p (nthR rows q) (scaleL p r u m) (-1) m) from plus_good (by omega))
            have HZ2 := Lib.hid ((ext_drew w5).trans HZ.out)
            have R70b : Hid (OwnC B _ (some ⟨g70, 0, none⟩) m c70 (plusL p (nthR rows q) (scaleL p r u m) (-1) m)) := Lib.hid (R70.out.mono (Nat.le_trans hBW (HEn.out.trans (ext_drew w5)).size))
            rename World => w9
            go_wp2_with (at_builtin; refine wpList_appendX rfl (.tmp 54) (.tmp 71) rfl (C := B) (B := W3.heap.size) (rows2 := [plusL p (nthR rows q) (scaleL p r u m) (-1) m]) (us := [.slice (some ⟨g70, 0, none⟩) m c70]) (m := 1) rfl rfl ((HO7.out.ext HZ2.out).ext (ext_alloc _ _)) rfl rfl ?hc ?hx (by omega) (by omega) (by omega) ?hb ?hk)
            case hc =>
              intro j v hj
              match j, hj with
              | 0, hj => simp only [List.getElem?_cons_zero, Option.some.injEq] at hj; subst hj; simp
            case hx =>
              intro i hi
              obtain rfl : i = 0 := by omega
              refine ⟨(some ⟨g70, 0, none⟩), c70, ?_, ?_⟩
              · show _ = some (Value.slice _ (plusL p (nthR rows q) (scaleL p r u m) (-1) m).length _)
                rw [HG70.out.1]; rfl
              · show OwnC _ _ _ (plusL p (nthR rows q) (scaleL p r u m) (-1) m).length _ (plusL p (nthR rows q) (scaleL p r u m) (-1) m)
                rw [HG70.out.1]
                exact R70b.out.ext (ext_alloc _ _)
            case hb => exact Nat.le_trans HEn.out.size (Nat.le_trans HZ2.out.size (ext_alloc _ _).size)
            case hk =>
              intro g5 c5 w5 row ho5 _ _ _ he5
              have HE5 := Lib.hid (he5 W3 (Nat.le_refl _) ((HEn.out.trans HZ2.out).alloc _))
              have HO5 := Lib.hid ho5
              clear ho5 he5
              go_wp2_with (fail)
              refine strictQ_normal ?_
              go_wp2_with (fail)
              go_roundw
              case rel => exact ⟨q + 1, q + 2, g5, c5, by omega, by go_num, (by rw [if_pos (by omega)]), rfl, by simp, Lib.hid (by rw [putP_succ, HU.out _ (by omega) (by rw [if_neg (by omega)]; omega), ← plus_scale_neg]; exact .inr HO5.out), HE5⟩
              case measure => simp [intOf]; omega
        · have hle : ¬ t < L := fun h => hqe (HQk.out.1 h)
          have hgd : decide ((t : Int) < (L : Int)) = false := by simp; omega
          have HOless := Lib.hid (HO.out.ext XW.out)
          have HEn := Lib.hid (HE.out.trans XW.out)
          go_wp2_with (fail)
          clear hqd hgd
          have HCA := Lib.hid ((HEn.out.trans (ext_drew w6)).cell HC0.out)
          have HCB := Lib.hid ((HEn.out.trans (ext_drew w6)).cell HCb0.out)
          have HRiw := Lib.hid (HRi0.out.ext (HEn.out.trans (ext_drew w6)))
          have HRw := Lib.hid (HRr.out.ext (HEn.out.trans (ext_drew w6)))
          refine wp_region_lex_tail1 17 [(15, .ownS w6.drew.heap.size m (scaleL p r u m)), (16, .ownS w6.drew.heap.size m (plusL p (nthR rows k2) (scaleL p r u m) (-1) m))] (.slice (some ⟨g, 0, none⟩) k2 rc) (by kernel_rfl) (by kernel_rfl) rfl rfl (fun w1 => by go_simp) ?_
          simp only [List.take, List.drop]
          simp only [Act.put, List.setIfInBounds_toArray, List.set_cons_zero, List.set_cons_succ]
          (refine LexW.pure (v := ?_) rfl rfl (fun w1 he => ?_) ?_; rotate_left; ( have e1 := he.cell HCA.out; have e2 := he.cell HCB.out; go_simp; rfl); simp only [Act.put, List.setIfInBounds_toArray, List.set_cons_zero, List.set_cons_succ])
          (refine LexW.pure (v := ?_) rfl rfl (fun w1 he => ?_) ?_; rotate_left; ( have e1 := he.cell HCA.out; have e2 := he.cell HCB.out; go_simp; rfl); simp only [Act.put, List.setIfInBounds_toArray, List.set_cons_zero, List.set_cons_succ])
          (refine LexW.pure (v := ?_) rfl rfl (fun w1 he => ?_) ?_; rotate_left; ( have e1 := he.cell HCA.out; have e2 := he.cell HCB.out; go_simp; rfl); simp only [Act.put, List.setIfInBounds_toArray, List.set_cons_zero, List.set_cons_succ])
          (refine LexW.pure (v := ?_) rfl rfl (fun w1 he => ?_) ?_; rotate_left; ( have e1 := he.cell HCA.out; have e2 := he.cell HCB.out; go_simp; rfl); simp only [Act.put, List.setIfInBounds_toArray, List.set_cons_zero, List.set_cons_succ])
          (refine LexW.pure (v := ?_) rfl rfl (fun w1 he => ?_) ?_; rotate_left; ( have e1 := he.cell HCA.out; have e2 := he.cell HCB.out; go_simp; rfl); simp only [Act.put, List.setIfInBounds_toArray, List.set_cons_zero, List.set_cons_succ])
          (refine LexW.pure (v := ?_) rfl rfl (fun w1 he => ?_) ?_; rotate_left; ( have e1 := he.cell HCA.out; have e2 := he.cell HCB.out; go_simp; rfl); simp only [Act.put, List.setIfInBounds_toArray, List.set_cons_zero, List.set_cons_succ])
          (refine LexW.pure (v := ?_) rfl rfl (fun w1 he => ?_) ?_; rotate_left; ( have e1 := he.cell HCA.out; have e2 := he.cell HCB.out; go_simp; rfl); simp only [Act.put, List.setIfInBounds_toArray, List.set_cons_zero, List.set_cons_succ])
          (refine LexW.pure (v := ?_) rfl rfl (fun w1 he => ?_) ?_; rotate_left; ( have e1 := he.cell HCA.out; have e2 := he.cell HCB.out; go_simp; rfl); simp only [Act.put, List.setIfInBounds_toArray, List.set_cons_zero, List.set_cons_succ])
          (refine LexW.pure (v := ?_) rfl rfl (fun w1 he => ?_) ?_; rotate_left; ( have e1 := he.cell HCA.out; have e2 := he.cell HCB.out; go_simp; rfl); simp only [Act.put, List.setIfInBounds_toArray, List.set_cons_zero, List.set_cons_succ])
          (refine LexW.pure (v := ?_) rfl rfl (fun w1 he => ?_) ?_; rotate_left; ( have e1 := he.cell HCA.out; have e2 := he.cell HCB.out; go_simp; rfl); simp only [Act.put, List.setIfInBounds_toArray, List.set_cons_zero, List.set_cons_succ])
          (refine LexW.pure (v := ?_) rfl rfl (fun w1 he => ?_) ?_; rotate_left; ( have e1 := he.cell HCA.out; have e2 := he.cell HCB.out; go_simp; rfl); simp only [Act.put, List.setIfInBounds_toArray, List.set_cons_zero, List.set_cons_succ])
          (refine LexW.pure (v := ?_) rfl rfl (fun w1 he => ?_) ?_; rotate_left; ( have e1 := he.cell HCA.out; have e2 := he.cell HCB.out; go_simp; rfl); simp only [Act.put, List.setIfInBounds_toArray, List.set_cons_zero, List.set_cons_succ])
          (refine LexW.pure (v := ?_) rfl rfl (fun w1 he => ?_) ?_; rotate_left; ( have e1 := he.cell HCA.out; have e2 := he.cell HCB.out; go_simp; rfl); simp only [Act.put, List.setIfInBounds_toArray, List.set_cons_zero, List.set_cons_succ])
          (refine LexW.pure (v := ?_) rfl rfl (fun w1 he => ?_) ?_; rotate_left; ( have e1 := he.cell HCA.out; have e2 := he.cell HCB.out; go_simp; rfl); simp only [Act.put, List.setIfInBounds_toArray, List.set_cons_zero, List.set_cons_succ])
          (refine LexW.callR (f := ?_) (args := ?_) rfl rfl (fun w1 => ?_) (fun w1 he hdep => ?_) (fun v hv => ?_); rotate_left 2; (go_simp; refine ⟨?_, ?_⟩ <;> rfl); ( refine (s_scale11 p (some ⟨gr, 0, none⟩) m cr r u w1 (by omega) (by omega) (by omega) (by omega) (HRw.out.rd.ext he) HGr.out).mono ?_; rintro e w2 ⟨g, rc, rfl, ho, g2⟩; exact ⟨_, rfl, g2, g, rc, rfl, ho.mono he.size⟩); simp only [Act.put, List.setIfInBounds_toArray, List.set_cons_zero, List.set_cons_succ])
          obtain ⟨_, g69, c69, rfl, _⟩ := hv
          (refine LexW.callR (f := ?_) (args := ?_) rfl rfl (fun w1 => ?_) (fun w1 he hdep => ?_) (fun v hv => ?_); rotate_left 2; (go_simp; refine ⟨?_, ?_⟩ <;> rfl); ( obtain ⟨_, _, q69, r69⟩ : (SPred.ownS w6.drew.heap.size m (scaleL p r u m)).holds (.slice (some ⟨g69, 0, none⟩) m c69) w1 := hdep (15, 69) (by decide +kernel); cases q69; refine (s_minus11 p (some ⟨bi, oi, none⟩) _ m ci c69 (nthR rows k2) (scaleL p r u m) w1 (by omega) (by omega) (by omega) (HRiw.out.ext he) r69.rd (fun i hi => by have := HGR.out.2 i hi; omega) (scale_good (by omega))).mono ?_; rintro e w2 ⟨g, rc, rfl, ho, g2⟩; exact ⟨_, rfl, g2, g, rc, rfl, ho.mono he.size⟩); simp only [Act.put, List.setIfInBounds_toArray, List.set_cons_zero, List.set_cons_succ])
          obtain ⟨_, g70, c70, rfl, _⟩ := hv
          refine LexW.nil (fun w3 he hkn => ?_)
          obtain ⟨_, _, q70, r70⟩ : (SPred.ownS w6.drew.heap.size m (plusL p (nthR rows k2) (scaleL p r u m) (-1) m)).holds (.slice (some ⟨g70, 0, none⟩) m c70) w3 := hkn (16, _) (by simp)
          cases q70
          have R70 := Lib.hid r70
          have HZ := Lib.hid he
          clear he hkn r70
          have HG70 := Lib.hid (show Good p m (plusL p (nthR rows k2) (scaleL p r u m) (-1) m) from plus_good (by omega))
          have HZ2 := Lib.hid ((ext_drew w6).trans HZ.out)
          have R70b : Hid (OwnC B _ (some ⟨g70, 0, none⟩) m c70 (plusL p (nthR rows k2) (scaleL p r u m) (-1) m)) := Lib.hid (R70.out.mono (Nat.le_trans hBW (HEn.out.trans (ext_drew w6)).size))
          rename World => w9
          go_wp2_with (at_builtin; refine wpList_appendX rfl (.tmp 54) (.tmp 71) rfl (C := B) (B := W3.heap.size) (rows2 := [plusL p (nthR rows k2) (scaleL p r u m) (-1) m]) (us := [.slice (some ⟨g70, 0, none⟩) m c70]) (m := 1) rfl rfl ((HOless.out.ext HZ2.out).ext (ext_alloc _ _)) rfl rfl ?hc ?hx (by omega) (by omega) (by omega) ?hb ?hk)
          case hc =>
            intro j v hj
            match j, hj with
            | 0, hj => simp only [List.getElem?_cons_zero, Option.some.injEq] at hj; subst hj; simp
          case hx =>
            intro i hi
            obtain rfl : i = 0 := by omega
            refine ⟨(some ⟨g70, 0, none⟩), c70, ?_, ?_⟩
            · show _ = some (Value.slice _ (plusL p (nthR rows k2) (scaleL p r u m) (-1) m).length _)
              rw [HG70.out.1]; rfl
            · show OwnC _ _ _ (plusL p (nthR rows k2) (scaleL p r u m) (-1) m).length _ (plusL p (nthR rows k2) (scaleL p r u m) (-1) m)
              rw [HG70.out.1]
              exact R70b.out.ext (ext_alloc _ _)
          case hb => exact Nat.le_trans HEn.out.size (Nat.le_trans HZ2.out.size (ext_alloc _ _).size)
          case hk =>
            intro g5 c5 w5 row ho5 _ _ _ he5
            have HE5 := Lib.hid (he5 W3 (Nat.le_refl _) ((HEn.out.trans HZ2.out).alloc _))
            have HO5 := Lib.hid ho5
            clear ho5 he5
            go_wp2_with (fail)
            refine strictQ_normal ?_
            go_wp2_with (fail)
            go_roundw
            case rel => exact ⟨k2 + 1, k2 + 1, g5, c5, by omega, by go_num, (by rw [if_neg (by omega)]), rfl, by simp; omega, Lib.hid (by rw [putP_succ, HU.out _ (by omega) (by rw [if_pos (by omega)]), ← plus_scale_neg]; exact .inr HO5.out), HE5⟩
            case measure => simp [intOf]; omega
    · obtain rfl : k = n := by omega
      by_cases hqk : q < k
      · have hqd : decide (q < k) = true := by simpa using hqk
        have hkk : k2 = k + 1 := by rw [hk2, if_pos hqk]
        subst hkk
        go_wp2_with (fail)
        go_ret
        exact ⟨_, _, _, rfl, .inr ⟨_, rfl⟩, by rw [HP2.out]; exact HO.out.ro, (X4.out.trans G3.out).trans HE.out⟩
      · have hqd : decide (q < k) = false := by simpa using hqk
        have hkk : k2 = k := by rw [hk2, if_neg hqk]; rfl
        subst hkk
        have hqe : q = k2 := by omega
        have HQE := Lib.hid hqe
        rename World => wr
        have XW := Lib.hid (Ext.refl wr)
        clear hqe hk2 hqk hk
        go_wp2_with (at_builtin; refine wpList_appendX rfl (.tmp 75) (.tmp 77) rfl (C := B) (B := W3.heap.size) (rows2 := [r]) (us := [.slice (some ⟨gr, 0, none⟩) m cr]) (m := 1) rfl rfl ((HO.out.ext XW.out).ext (ext_alloc _ _)) rfl rfl ?hc ?hx (by omega) (by omega) (by omega) ?hb ?hk)
        case hc =>
          intro j v hj
          match j, hj with
          | 0, hj => simp only [List.getElem?_cons_zero, Option.some.injEq] at hj; subst hj; simp
        case hx =>
          intro i hi
          obtain rfl : i = 0 := by omega
          refine ⟨(some ⟨gr, 0, none⟩), cr, ?_, ?_⟩
          · show _ = some (Value.slice _ r.length _)
            rw [HGr.out.1]; rfl
          · show OwnC _ _ _ r.length _ r
            rw [HGr.out.1]
            exact (HRr.out.ext (HE.out.trans XW.out)).ext (ext_alloc _ _)
        case hb => exact Nat.le_trans HE.out.size (Nat.le_trans XW.out.size (ext_alloc _ _).size)
        case hk =>
          intro gq cq w5 row ho5 _ _ _ he5
          have HEn := Lib.hid (he5 W3 (Nat.le_refl _) ((HE.out.trans XW.out).alloc _))
          have HO7 := Lib.hid (show OwnXC B W3.heap.size w5 (some ⟨gq, 0, none⟩) (k2 + 1) cq (putP p m rows r t q (k2 + 1)) by rw [putP_succ, show putN p m rows r t q k2 = r by rw [putN, if_neg (by have := HQE.out; omega), if_pos HQE.out.symm]]; exact .inr ho5)
          clear ho5 he5 hqd
          go_wp2_with (fail)
          go_ret
          exact ⟨_, _, _, rfl, .inr ⟨_, rfl⟩, by rw [HP2.out]; exact HO7.out.ro, (X4.out.trans G3.out).trans HEn.out⟩
set_option maxHeartbeats 4000000 in
set_option maxRecDepth 100000 in
theorem s_reduced12 (p : Int) (ax : Option Addr) (n cap m : Nat) (lists : List (List Int)) (w : World) (hpr : primeB p = true) (hm0 : 0 < m) (hm : m ≤ 4095) (hn : n ≤ 4194303) (hx : RdR w ax n lists) (hg : RowsG p m lists) :
    Calls Tryz.prog 61 #[.int .i64 p, .slice ax n cap] w fun e w' => ∃ g rn rc, e = .returned (.slice (some ⟨g, 0, none⟩) rn rc) ∧ RdO w.heap.size w' (some ⟨g, 0, none⟩) rn (basisL p m lists) ∧ Ext w w' := by
  have HX := Lib.hid hx
  have HG := Lib.hid hg
  have HRO : Hid (∀ k, k ≤ n → ∃ c, Basis p m (redS p m lists k) c) := Lib.hid (fun k hk => (redS_ok hpr hg k (by rw [hx.1]; exact hk)).1)
  have HRB : Hid (redS p m lists n = basisL p m lists) := Lib.hid (by rw [← hx.1]; exact redS_basis hpr hg)
  have HPR := Lib.hid hpr
  have HLN := Lib.hid hx.1
  clear hx hg hpr
  go_enter Tryz.func61, Tryz.ntmps61
  go_wp2_with (fail)
  go_loopw [5, 6] (fun v i wr => ∃ (k n2 rc gr : Nat), k ≤ n ∧ i = .int .i64 k ∧ v = .slice (some ⟨gr, 0, none⟩) n2 rc ∧ Hid (RdO w.heap.size wr (some ⟨gr, 0, none⟩) n2 (redS p m lists k)) ∧ Hid (Ext w wr)) (fun _ i _ => n - (intOf i).toNat)
  case atStart => exact ⟨0, 0, _, _, Nat.zero_le _, rfl, rfl, Lib.hid (RdO.nil _ _ _), Lib.hid (ext_alloc _ _)⟩
  case round =>
    obtain ⟨k, n2, rc, gr, hk, rfl, rfl, HO, HE⟩ := hrel
    by_cases hlt : k < n
    · obtain ⟨b, off, ai, ci, rfl, hc, hri⟩ := HX.out.2 k hlt
      have HGR := Lib.hid (HG.out k (by rw [HLN.out]; exact hlt))
      rw [HGR.out.1] at hc hri
      have hc' := HE.out.cell hc
      have HRi := Lib.hid (hri.ext HE.out)
      obtain ⟨c, hb⟩ := HRO.out k hk
      have HB := Lib.hid hb
      clear hc hri hb
      go_wp2_with (fail)
      refine Calls.mono (s_put12 p (some ⟨gr, 0, none⟩) n2 rc m (redS p m lists k) ai ci (nthR lists k) c w.heap.size _ HPR.out hm0 hm HB.out HE.out.size HO.out HRi.out HGR.out) ?_
      rintro e w2 ⟨ra2, n3, rc2, rfl, hform, o2, x2⟩
      obtain ⟨g2, rfl⟩ : ∃ g, ra2 = some ⟨g, 0, none⟩ := by
        rcases hform with h | h
        · exact ⟨_, h⟩
        · exact h
      have HO2 : Hid (RdO w.heap.size w2 (some ⟨g2, 0, none⟩) n3 (redS p m lists (k + 1))) := Lib.hid o2
      have HE2 := Lib.hid (HE.out.trans x2)
      clear o2 x2 hc'
      go_wp2_with (fail)
      go_roundw
      case rel => exact ⟨k + 1, n3, rc2, g2, by omega, by go_num, rfl, HO2, HE2⟩
      case measure => simp [intOf]; omega
    · obtain rfl : k = n := by omega
      go_wp2_with (fail)
      go_ret
      exact ⟨_, _, _, rfl, by rw [← HRB.out]; exact HO.out, HE.out⟩
end Go.Proofs.YtcocbainookkcaaGreat

/-
  Kernels: contract of the reference.
  No condition.
-/
namespace Go.Proofs.YtcocbainookkcaaGreat
set_option maxRecDepth 100000
open Go.RowKit

/-- The places of the first numbers of the first k rows. -/
def pivL (red : List (List Int)) (k : Nat) : List Int := (List.range k).map fun i => ((leadN (nthR red i) : Nat) : Int)
theorem pivL_len (red : List (List Int)) (k : Nat) : (pivL red k).length = k := by simp [pivL]
theorem pivL_succ (red : List (List Int)) (k : Nat) : pivL red (k + 1) = pivL red k ++ [((leadN (nthR red k) : Nat) : Int)] := by simp [pivL, List.range_succ]
theorem pivL_nth {red : List (List Int)} {k i : Nat} (h : i < k) : nth (pivL red k) i = ((leadN (nthR red i) : Nat) : Int) := by
  unfold pivL; rw [nth_map (by simpa using h)]; simp
def inL (xs : List Int) (v : Int) : Bool := (List.range xs.length).any fun i => nth xs i == v
theorem inL_at {xs : List Int} {v : Int} {k : Nat} (hk : k < xs.length) (h : nth xs k = v) : inL xs v = true := by
  unfold inL
  rw [List.any_eq_true]
  exact ⟨k, List.mem_range.2 hk, by simp [h]⟩
theorem inL_none {xs : List Int} {v : Int} (h : ∀ k, k < xs.length → nth xs k ≠ v) : inL xs v = false := by
  unfold inL
  rw [List.any_eq_false]
  intro k hk
  simpa using h k (List.mem_range.1 hk)
theorem inL_piv {red : List (List Int)} {t : Nat} : inL (pivL red red.length) t = (pivIx red t).isSome := by
  cases h : pivIx red t with
  | none => exact inL_none (fun k hk => by rw [pivL_len] at hk; rw [pivL_nth hk]; have := pivIx_none h k hk; omega)
  | some i =>
    obtain ⟨h1, h2⟩ := pivIx_some h
    exact inL_at (k := i) (by rw [pivL_len]; exact h1) (by rw [pivL_nth h1]; omega)
/-- The vector when the first i rows have been gone through. -/
def kerF (p : Int) (red : List (List Int)) (f i t : Nat) : Int := if t = f then 1 else match pivIx red t with | some j => if j < i then (-(nth (nthR red j) f)) % p else 0 | none => 0
def kerI (p : Int) (n : Nat) (red : List (List Int)) (f i : Nat) : List Int := (List.range n).map (kerF p red f i)
theorem kerI_len (p : Int) (n : Nat) (red : List (List Int)) (f i : Nat) : (kerI p n red f i).length = n := by simp [kerI]
theorem kerI_nth {p : Int} {n : Nat} {red : List (List Int)} {f i t : Nat} (h : t < n) : nth (kerI p n red f i) t = kerF p red f i t := by
  unfold kerI; rw [nth_map (by simpa using h)]; simp
theorem kerI_zero {p : Int} {n : Nat} {red : List (List Int)} {f : Nat} (hf : f < n) : kerI p n red f 0 = bladeL n f := by
  refine ext_nth (by rw [kerI_len, bladeL_len]) (fun t ht => ?_)
  rw [kerI_len] at ht
  rw [kerI_nth ht, bladeL_nth hf ht]
  unfold kerF
  by_cases h : t = f
  · rw [if_pos h, if_pos h.symm]
  · rw [if_neg h, if_neg (fun e => h e.symm)]
    cases hp : pivIx red t with
    | none => rfl
    | some i => simp only [Nat.not_lt_zero, if_false]
theorem kerI_all {p : Int} {n : Nat} {red : List (List Int)} {f : Nat} : kerI p n red f red.length = kerV p n red f := by
  unfold kerI kerV
  refine List.map_congr_left fun t _ => ?_
  unfold kerF kerN
  cases hp : pivIx red t with
  | none => rfl
  | some i => simp only [(pivIx_some hp).1, if_true]
theorem kerI_step {p : Int} {m n : Nat} {red : List (List Int)} {c : Nat → Nat} (hb : Basis p m red c) {f i : Nat} (hi : i < red.length) (hx : leadN (nthR red i) < n) (hf : pivIx red f = none) :
    kerI p n red f (i + 1) = (kerI p n red f i).set (leadN (nthR red i)) ((-(nth (nthR red i) f)) % p) := by
  have hpi : pivIx red (leadN (nthR red i)) = some i := by rw [hb.leadN hi]; exact hb.piv hi
  have hne : leadN (nthR red i) ≠ f := fun e => by rw [e, hf] at hpi; cases hpi
  refine ext_nth (by rw [kerI_len, List.length_set, kerI_len]) (fun t ht => ?_)
  rw [kerI_len] at ht
  rw [kerI_nth ht, nth_set (by rw [kerI_len]; exact hx)]
  by_cases h : t = leadN (nthR red i)
  · subst h
    rw [if_pos rfl]
    unfold kerF
    rw [if_neg hne, hpi]
    simp only [Nat.lt_succ_self, if_true]
  · rw [if_neg (fun e => h e.symm), kerI_nth ht]
    unfold kerF
    by_cases htf : t = f
    · rw [if_pos htf, if_pos htf]
    · rw [if_neg htf, if_neg htf]
      cases hp : pivIx red t with
      | none => rfl
      | some j =>
        obtain ⟨h1, h2⟩ := pivIx_some hp
        have hji : j ≠ i := fun e => h (by rw [← h2, e])
        by_cases hlt : j < i
        · simp only [hlt, show j < i + 1 by omega, if_true]
        · simp only [hlt, show ¬ j < i + 1 by omega, if_false]
theorem neg_mod (p x : Int) : (p - x) % p = (-x) % p := by rw [show p - x = -x + p by omega, Int.add_emod_right]

set_option maxHeartbeats 400000 in
theorem s_index (a : Option Addr) (n cap : Nat) (xs : List Int) (v : Int) (w : World) (hl : n ≤ 4194303) (hx : RdC w a n xs) :
    Calls Tryz.prog 86 #[.slice a n cap, .int .i64 v] w fun e w' => ∃ r : Int, (e = .returned (.int .i64 r) ∧ (inL xs v = true ↔ 0 ≤ r)) ∧ Ext w w' := by
  have HX := Lib.hid hx
  clear hx
  go_enter Tryz.func86, Tryz.ntmps86
  go_wp2_with (fail)
  go_loopw [5] (fun i wr => ∃ k : Nat, k ≤ n ∧ i = .int .i64 k ∧ Hid (∀ j, j < k → nth xs j ≠ v) ∧ Ext w wr) (fun i _ => n - (intOf i).toNat)
  case atStart => exact ⟨0, Nat.zero_le _, rfl, Lib.hid (fun j hj => by omega), Ext.refl _⟩
  case round =>
    obtain ⟨k, hk, rfl, HT, hext⟩ := hrel
    by_cases hlt : k < n
    · obtain ⟨b, off, rfl, hc⟩ := HX.out.2 k hlt
      have hc' := hext.cell hc
      clear hc
      by_cases hz : nth xs k = v
      · have HZ := Lib.hid hz
        have hzb : (nth xs k == v) = true := by simp [hz]
        clear hz
        go_wp2_with (fail)
        go_ret
        have hi := inL_at (v := v) (by rw [HX.out.1]; exact hlt) HZ.out
        exact ⟨(k : Int), ⟨rfl, by rw [hi]; simp⟩, hext⟩
      · have HZ := Lib.hid hz
        have hzb : (nth xs k == v) = false := by simp [hz]
        clear hz
        go_wp2_with (fail)
        go_roundw
        case rel => exact ⟨k + 1, by omega, by go_num, Lib.hid (fun j hj => by
          by_cases hjk : j = k
          · subst hjk; exact HZ.out
          · exact HT.out j (by omega)), hext⟩
        case measure => simp [intOf]; omega
    · go_wp2_with (fail)
      go_ret
      have hi := inL_none (xs := xs) (v := v) (fun k' hk' => HT.out k' (by rw [HX.out.1] at hk'; omega))
      exact ⟨-1, ⟨rfl, by rw [hi]; simp⟩, hext⟩
set_option maxHeartbeats 400000 in
theorem s_has (a : Option Addr) (n cap : Nat) (xs : List Int) (v : Int) (w : World) (hl : n ≤ 4194303) (hx : RdC w a n xs) :
    Calls Tryz.prog 63 #[.slice a n cap, .int .i64 v] w fun e w' => e = .returned (.bool (inL xs v)) ∧ Ext w w' := by
  go_enter Tryz.func63, Tryz.ntmps63
  go_wp2_with (go_at_call 86; refine (s_index _ _ _ _ _ _ hl hx).mono ?_; rintro e w1 ⟨r, ⟨rfl, hr⟩, g1⟩)
  go_ret
  refine ⟨ret_bool ?_, g1⟩
  rw [Bool.eq_iff_iff, hr]
  simp

end Go.Proofs.YtcocbainookkcaaGreat

/-
  Kernels by reduced bases with one more list, in the reference.
  No condition.
-/
namespace Go.Proofs.YtcocbainookkcaaGreat
set_option maxRecDepth 100000
open Go.RowKit

theorem RdO.mono {B B' : Nat} {w : World} {a : Option Addr} {n : Nat} {rows : List (List Int)} (h : RdO B w a n rows) (hb : B' ≤ B) : RdO B' w a n rows :=
  ⟨h.1, fun i hi => let ⟨b, off, ai, ci, ha, hc, hr⟩ := h.2 i hi; ⟨b, off, ai, ci, ha, hc, hr.mono hb⟩⟩
set_option maxHeartbeats 8000000 in
set_option maxRecDepth 100000 in
theorem s_kernel12 (p : Int) (n : Nat) (a : Option Addr) (m cap : Nat) (rows : List (List Int)) (w : World) (hpr : primeB p = true) (hn : 0 < n) (hn2 : n ≤ 4095) (hm : m ≤ 4095) (hx : RdR w a m rows) (hg : RowsG p n rows) :
    Calls Tryz.prog 31 #[.int .i64 p, .int .i64 n, .slice a m cap] w fun e w' => ∃ g rc, e = .returned (.slice (some ⟨g, 0, none⟩) (kernL p n rows).length rc) ∧ RdO w.heap.size w' (some ⟨g, 0, none⟩) (kernL p n rows).length (kernL p n rows) ∧ Ext w w' := by
  have hpb := prime_bd hpr
  have hpz : ¬ p = 0 := by omega
  obtain ⟨cc, hbas⟩ := basis_red hpr hg
  have HPR := Lib.hid hpr
  have HX := Lib.hid hx
  have HG := Lib.hid hg
  obtain ⟨red, hred⟩ : ∃ red, red = basisL p n rows := ⟨_, rfl⟩
  have HBas := Lib.hid (show Basis p n red cc by rw [hred]; exact hbas)
  have HRed := Lib.hid hred
  have HKL := Lib.hid (show kernL p n rows = basisL p n (kerR p n red n) by unfold kernL; rw [hred])
  have hrl : red.length ≤ 4095 := by have := HBas.out.len; omega
  clear hx hg hbas hpr hred
  go_enter Tryz.func31, Tryz.ntmps31
  go_wp2_with (fail)
  refine Calls.mono (s_reduced12 p a m cap n rows w HPR.out hn hn2 (by omega) HX.out HG.out) ?_
  rintro e w0 ⟨gb, nb, cb, rfl, o0, x0⟩
  rw [← HRed.out] at o0
  obtain rfl : nb = red.length := o0.1.symm
  have HOb0 := Lib.hid o0
  have X0 := Lib.hid x0
  clear o0 x0
  go_wp2_with (fail)
  obtain ⟨w1, hw1⟩ : ∃ x, x = w0.alloc (.cells #[] 24) := ⟨_, rfl⟩
  have HOb : Hid (RdO w.heap.size w1 (some ⟨gb, 0, none⟩) red.length red) := Lib.hid (by rw [hw1]; exact HOb0.out.ext (ext_alloc _ _))
  have GW : Hid (Ext w w1) := Lib.hid (by rw [hw1]; exact X0.out.trans (ext_alloc _ _))
  rw [← hw1]
  have HZ1 : Hid (w0.heap.size + 1 = w1.heap.size) := Lib.hid (by rw [hw1]; simp)
  clear hw1 HOb0 X0
  go_loopw [9, 10] (fun v i wr => ∃ (k g rc : Nat), k ≤ red.length ∧ i = .int .i64 k ∧ v = .slice (some ⟨g, 0, none⟩) k rc ∧ OwnC w1.heap.size wr (some ⟨g, 0, none⟩) k rc (pivL red k) ∧ Ext w1 wr) (fun _ i _ => red.length - (intOf i).toNat)
  case atStart => exact ⟨0, _, _, Nat.zero_le _, rfl, rfl, by rw [HZ1.out]; exact own_empty w1, ext_alloc _ _⟩
  case round =>
    obtain ⟨k, gp, rp, hk, rfl, rfl, hown, hext⟩ := hrel
    have HOwn := Lib.hid hown
    have HExt := Lib.hid hext
    clear hown hext
    by_cases hlt : k < red.length
    · obtain ⟨bj, oj, aj, cj, hax, hcj, hoj⟩ := HOb.out.2 k hlt
      cases hax
      rw [Nat.zero_add] at hcj
      have hjl := (HBas.out.good k hlt).1
      rw [hjl] at hcj hoj
      have hcj' := HExt.out.cell hcj
      have HOj := Lib.hid (hoj.rd.ext HExt.out)
      have hll : leadN (nthR red k) < n := by rw [HBas.out.leadN hlt]; exact HBas.out.clt k hlt
      obtain ⟨L, hL⟩ : ∃ L, L = leadN (nthR red k) := ⟨_, rfl⟩
      have HL := Lib.hid hL
      clear hcj hoj hjl hL hll
      go_wp2_with (first
        | (go_at_call 62; refine (s_first12 aj n cj (nthR red k) _ (by omega) HOj.out).mono ?_; rintro e w2 ⟨rfl, g2⟩; rw [← HL.out]; have G2 := Lib.hid g2; clear g2)
        | (at_builtin; refine wpList_push rfl (.tmp 25) (.tmp 31) rfl rfl rfl (v := (L : Int)) (HOwn.out.ext (G2.out.trans (ext_alloc _ _))) ?hc ?hn ?hB ?hk))
      case hc => simp
      case hn => omega
      case hB => have hz := (HExt.out.trans G2.out).size'; simp; omega
      case hk =>
        intro g' cap' w3 ho3 hg3 he3
        have HO3 := Lib.hid ho3
        have HE3 := Lib.hid (he3 w1 (Nat.le_refl _) ((HExt.out.trans G2.out).alloc _))
        clear ho3 hg3 he3
        go_wp2_with (fail)
        go_roundw
        case rel => exact ⟨k + 1, g', cap', by omega, by go_num, rfl, by rw [pivL_succ, ← HL.out]; exact HO3.out, HE3.out⟩
        case measure => simp [intOf]; omega
    · obtain rfl : k = red.length := by omega
      have HPv := HOwn
      have X2 := HExt
      have HRd := Lib.hid (HOb.out.ext X2.out)
      have G2 := Lib.hid (GW.out.trans X2.out)
      clear HOwn HExt HOb
      rename World => wM
      go_wp2_with (fail)
      go_loopw [8, 11] (fun v i wq => ∃ (f g rc : Nat), f ≤ n ∧ i = .int .i64 f ∧ v = .slice (some ⟨g, 0, none⟩) (kerR p n red f).length rc ∧ OwnW wM.heap.size wq (some ⟨g, 0, none⟩) (kerR p n red f).length rc (kerR p n red f) ∧ Ext wM wq) (fun _ i _ => n - (intOf i).toNat)
      case atStart => exact ⟨0, _, _, Nat.zero_le _, rfl, rfl, OwnW.start _ _ _, Ext.refl _⟩
      case round =>
        obtain ⟨f, g, rc, hf, rfl, rfl, hown, hext⟩ := hrel
        rename World => wq
        have HOwn := Lib.hid hown
        have HExt := Lib.hid hext
        clear hown hext
        have hkl := kerR_len p n red f
        by_cases hlf : f < n
        · have hpiv := @inL_piv red f
          cases hp : pivIx red f with
          | some j =>
            rw [hp] at hpiv
            have HK := Lib.hid (kerR_no (p := p) (n := n) hp)
            have HIn : Hid (inL (pivL red red.length) f = true) := Lib.hid hpiv
            clear hp hpiv
            go_wp2_with (go_at_call 63; refine (s_has _ _ _ _ _ _ (by omega) (HPv.out.rd.ext HExt.out)).mono ?_; rintro e w4 ⟨rfl, g4⟩; rw [HIn.out]; have HE4 := Lib.hid (HExt.out.trans g4); have HO4 : Hid (OwnW wM.heap.size w4 (some ⟨g, 0, none⟩) (kerR p n red f).length rc (kerR p n red f)) := Lib.hid (by
              rcases HOwn.out with h | h
              · exact .inl h
              · exact .inr (h.ext g4)); clear g4)
            go_roundw
            case rel => exact ⟨f + 1, g, rc, by omega, by go_num, by rw [HK.out], by rw [HK.out]; exact HO4.out, HE4.out⟩
            case measure => simp [intOf]; omega
          | none =>
            rw [hp] at hpiv
            have HK := Lib.hid (kerR_yes (p := p) (n := n) hp)
            have HP := Lib.hid hp
            have HIn : Hid (inL (pivL red red.length) f = false) := Lib.hid hpiv
            clear hp hpiv
            go_wp2_with (go_at_call 63; refine (s_has _ _ _ _ _ _ (by omega) (HPv.out.rd.ext HExt.out)).mono ?_; rintro e w4 ⟨rfl, g4⟩; rw [HIn.out]; have HE4 := Lib.hid g4; clear g4)
            obtain ⟨w5, hmk, ho5, he5⟩ := make_ints w4 n (by omega)
            obtain ⟨g0, hg0⟩ : ∃ g, g = w4.heap.size := ⟨_, rfl⟩
            rw [← hg0] at hmk ho5
            have hge4 : w4.heap.size ≤ g0 := by omega
            have hge : wq.heap.size ≤ g0 := by have := HE4.out.size'; omega
            have HO5 := Lib.hid (ho5.mono hge4)
            have HE5 := Lib.hid (HE4.out.trans he5)
            have hcg := ho5.cell hlf
            have hfz := ho5.frozen f
            clear ho5 he5 hg0
            rw [hmk]
            go_wp2_with (fail)
            have X5 := Lib.hid (HE5.out.setCell (p := ⟨g0, f, none⟩) hge (.int .i64 1))
            have HOs := Lib.hid ((HO5.out.store hlf 1).mono HE4.out.size)
            clear hcg hfz hmk
            go_loopw [13] (fun i wz => ∃ (j : Nat), j ≤ red.length ∧ i = .int .i64 j ∧ OwnC wq.heap.size wz (some ⟨g0, 0, none⟩) n n (kerI p n red f j) ∧ Ext wq wz) (fun i _ => red.length - (intOf i).toNat)
            case atStart => exact ⟨0, Nat.zero_le _, rfl, by rw [kerI_zero hlf]; exact HOs.out, X5.out⟩
            case round =>
              obtain ⟨i, hi, rfl, hown, hext⟩ := hrel
              rename World => wz
              have HOz := Lib.hid hown
              have HEz := Lib.hid hext
              clear hown hext
              by_cases hli : i < red.length
              · have hjl := (HBas.out.good i hli).1
                have hlt : leadN (nthR red i) < n := by rw [HBas.out.leadN hli]; exact HBas.out.clt i hli
                have hbd := (HBas.out.good i hli).2 f hlf
                obtain ⟨bd, od, ai, ci, hax, hci, hoi⟩ := HRd.out.2 i hli
                cases hax
                rw [Nat.zero_add] at hci
                rw [hjl] at hci hoi
                have HSt := Lib.hid (kerI_step (p := p) (n := n) HBas.out hli hlt HP.out)
                obtain ⟨bj, oj, rfl, hcm⟩ := hoi.rd.2 f (by omega)
                have hpc := HPv.out.cell hli
                rw [pivL_nth hli] at hpc
                have E7 := Lib.hid (HExt.out.trans (HEz.out.trans (ext_drew wz)))
                have HCi := Lib.hid (E7.out.cell hci)
                have HCm := Lib.hid (E7.out.cell hcm)
                have HPc := Lib.hid (E7.out.cell hpc)
                obtain ⟨u, hu⟩ : ∃ u, u = nth (nthR red i) f := ⟨_, rfl⟩
                rw [← hu] at HCm hbd HSt
                obtain ⟨L, hL⟩ : ∃ L, L = leadN (nthR red i) := ⟨_, rfl⟩
                rw [← hL] at hlt HSt HPc
                obtain ⟨v, hv⟩ : ∃ v, v = -u := ⟨_, rfl⟩
                have hw1 : IntKind.i64.wrap (-u) = v := by rw [hv]; exact IntWalk.i64_in _ (by omega)
                rw [← hv] at HSt
                obtain ⟨Z, hZ⟩ : ∃ Z, Z = v % p := ⟨_, rfl⟩
                have HMd : Hid (∀ w1, Calls Tryz.prog 30 #[.int .i64 p, .int .i64 v] w1 fun e w' => e = .returned (.int .i64 Z) ∧ Ext w1 w') := Lib.hid (fun w1 => by rw [hZ]; exact s_mod p v w1 (by omega) (by omega))
                rw [← hZ] at HSt
                clear hv
                clear hci hoi hcm hpc hjl hL hu hZ
                go_wp2_with (fail)
                refine wp_region_lex_tail 15 [(14, .val (.int .i64 Z))] (by kernel_rfl) (by kernel_rfl) ?_
                simp only [List.take, List.drop]
                (refine LexW.pure (v := ?_) rfl rfl (fun w1 he => ?_) ?_; rotate_left; ( have e1 := he.cell HCi.out; have e2 := he.cell HCm.out; have e3 := he.cell HPc.out; go_simp; rfl); simp only [Act.put, List.setIfInBounds_toArray, List.set_cons_zero, List.set_cons_succ])
                (refine LexW.pure (v := ?_) rfl rfl (fun w1 he => ?_) ?_; rotate_left; ( have e1 := he.cell HCi.out; have e2 := he.cell HCm.out; have e3 := he.cell HPc.out; go_simp; rfl); simp only [Act.put, List.setIfInBounds_toArray, List.set_cons_zero, List.set_cons_succ])
                (refine LexW.pure (v := ?_) rfl rfl (fun w1 he => ?_) ?_; rotate_left; ( have e1 := he.cell HCi.out; have e2 := he.cell HCm.out; have e3 := he.cell HPc.out; go_simp; rfl); simp only [Act.put, List.setIfInBounds_toArray, List.set_cons_zero, List.set_cons_succ])
                (refine LexW.pure (v := ?_) rfl rfl (fun w1 he => ?_) ?_; rotate_left; ( have e1 := he.cell HCi.out; have e2 := he.cell HCm.out; have e3 := he.cell HPc.out; go_simp; rfl); simp only [Act.put, List.setIfInBounds_toArray, List.set_cons_zero, List.set_cons_succ])
                (refine LexW.pure (v := ?_) rfl rfl (fun w1 he => ?_) ?_; rotate_left; ( have e1 := he.cell HCi.out; have e2 := he.cell HCm.out; have e3 := he.cell HPc.out; go_simp; rfl); simp only [Act.put, List.setIfInBounds_toArray, List.set_cons_zero, List.set_cons_succ])
                (refine LexW.pure (v := ?_) rfl rfl (fun w1 he => ?_) ?_; rotate_left; ( have e1 := he.cell HCi.out; have e2 := he.cell HCm.out; have e3 := he.cell HPc.out; go_simp; rfl); simp only [Act.put, List.setIfInBounds_toArray, List.set_cons_zero, List.set_cons_succ])
                (refine LexW.pure (v := ?_) rfl rfl (fun w1 he => ?_) ?_; rotate_left; ( have e1 := he.cell HCi.out; have e2 := he.cell HCm.out; have e3 := he.cell HPc.out; go_simp; rfl); simp only [Act.put, List.setIfInBounds_toArray, List.set_cons_zero, List.set_cons_succ])
                (refine LexW.pure (v := ?_) rfl rfl (fun w1 he => ?_) ?_; rotate_left; ( have e1 := he.cell HCi.out; have e2 := he.cell HCm.out; have e3 := he.cell HPc.out; go_simp; rfl); simp only [Act.put, List.setIfInBounds_toArray, List.set_cons_zero, List.set_cons_succ])
                (refine LexW.pure (v := ?_) rfl rfl (fun w1 he => ?_) ?_; rotate_left; ( have e1 := he.cell HCi.out; have e2 := he.cell HCm.out; have e3 := he.cell HPc.out; go_simp; rfl); simp only [Act.put, List.setIfInBounds_toArray, List.set_cons_zero, List.set_cons_succ])
                (refine LexW.pure (v := ?_) rfl rfl (fun w1 he => ?_) ?_; rotate_left; ( have e1 := he.cell HCi.out; have e2 := he.cell HCm.out; have e3 := he.cell HPc.out; go_simp; rfl); simp only [Act.put, List.setIfInBounds_toArray, List.set_cons_zero, List.set_cons_succ])
                (refine LexW.pure (v := ?_) rfl rfl (fun w1 he => ?_) ?_; rotate_left; ( have e1 := he.cell HCi.out; have e2 := he.cell HCm.out; have e3 := he.cell HPc.out; go_simp; rfl); simp only [Act.put, List.setIfInBounds_toArray, List.set_cons_zero, List.set_cons_succ])
                (refine LexW.pure (v := ?_) rfl rfl (fun w1 he => ?_) ?_; rotate_left; ( have e1 := he.cell HCi.out; have e2 := he.cell HCm.out; have e3 := he.cell HPc.out; go_simp; rfl); simp only [Act.put, List.setIfInBounds_toArray, List.set_cons_zero, List.set_cons_succ])
                (refine LexW.pure (v := ?_) rfl rfl (fun w1 he => ?_) ?_; rotate_left; ( have e1 := he.cell HCi.out; have e2 := he.cell HCm.out; have e3 := he.cell HPc.out; go_simp; rfl); simp only [Act.put, List.setIfInBounds_toArray, List.set_cons_zero, List.set_cons_succ])
                (refine LexW.pure (v := ?_) rfl rfl (fun w1 he => ?_) ?_; rotate_left; ( have e1 := he.cell HCi.out; have e2 := he.cell HCm.out; have e3 := he.cell HPc.out; go_simp; rfl); simp only [Act.put, List.setIfInBounds_toArray, List.set_cons_zero, List.set_cons_succ])
                (refine LexW.call (f := ?_) (args := ?_) rfl rfl (fun w1 => ?_) (fun w1 he hdep => ?_) ?_; rotate_left 2; (go_simp; refine ⟨?_, ?_⟩ <;> rfl); ( exact HMd.out w1); simp only [Act.put, List.setIfInBounds_toArray, List.set_cons_zero, List.set_cons_succ])
                refine LexW.nil (fun w8 he hkn => ?_)
                have X8 := Lib.hid ((ext_drew wz).trans he)
                clear he hkn
                have HO8 := Lib.hid (HOz.out.ext X8.out)
                have hcg := HO8.out.cell hlt
                have hfz := HO8.out.frozen L
                go_wp2_with (fail)
                go_roundw
                case rel => exact ⟨i + 1, by omega, by go_num, by rw [HSt.out]; exact HO8.out.store hlt _, (HEz.out.trans X8.out).setCell hge _⟩
                case measure => simp [intOf]; omega
              · obtain rfl : i = red.length := by omega
                have HKE := Lib.hid (kerI_all (p := p) (n := n) (red := red) (f := f))
                go_wp2_with (at_builtin; refine wpList_pushRW (w0 := wq) rfl (.tmp 68) (.tmp 70) rfl rfl rfl HOwn.out (HEz.out.trans (ext_alloc _ _)) (xs := kerV p n red f) (by rw [← HKE.out]; exact HOz.out.ext (ext_alloc _ _)) ?hc (by omega) HExt.out.size ?hk)
                case hc => exact cell_new _ _ rfl _ _
                case hk =>
                  intro g' cap' w9 ho9 he9
                  have HO9 := Lib.hid ho9
                  have HE9 := Lib.hid (he9 wM (Nat.le_refl _) ((HExt.out.trans HEz.out).alloc _))
                  clear ho9 he9
                  go_wp2_with (fail)
                  go_roundw
                  case rel => exact ⟨f + 1, g', cap', by omega, by go_num, by rw [HK.out, List.length_append]; rfl, by rw [HK.out, List.length_append]; exact .inr HO9.out, HE9.out⟩
                  case measure => simp [intOf]; omega
        · obtain rfl : f = n := by omega
          go_wp2_with (fail)
          refine Calls.mono (s_reduced12 p _ (kerR p f red f).length rc f (kerR p f red f) _ HPR.out hn hn2 (by omega) HOwn.out.rd (kerR_good (by omega))) ?_
          rintro e w8 ⟨r8, n8, c8, rfl, o8, x8⟩
          rw [← HKL.out] at o8
          obtain rfl : n8 = (kernL p f rows).length := o8.1.symm
          have HO8 := Lib.hid (o8.mono (G2.out.trans HExt.out).size)
          have X8 := Lib.hid x8
          clear o8 x8
          go_wp2_with (fail)
          go_ret
          exact ⟨_, _, rfl, HO8.out, G2.out.trans (HExt.out.trans X8.out)⟩
end Go.Proofs.YtcocbainookkcaaGreat

/-
  The listed function WedgeOfPoints.
  No condition.
-/
namespace Go.Proofs.YtcocbainookkcaaGreat
set_option maxRecDepth 100000
open Go.RowKit

def pointsL (p : Int) (qs : List Int) (vs : List (List Int)) (k : Nat) : List (List Int) := (List.range k).map fun i => pointL p qs (nthR vs i)
theorem pointsL_succ (p : Int) (qs : List Int) (vs : List (List Int)) (k : Nat) : pointsL p qs vs (k + 1) = pointsL p qs vs k ++ [pointL p qs (nthR vs k)] := by simp [pointsL, List.range_succ]
theorem pointsL_len (p : Int) (qs : List Int) (vs : List (List Int)) (k : Nat) : (pointsL p qs vs k).length = k := by simp [pointsL]
theorem pointsL_nth {p : Int} {qs : List Int} {vs : List (List Int)} {k i : Nat} (h : i < k) : nthR (pointsL p qs vs k) i = pointL p qs (nthR vs i) := by
  unfold pointsL; rw [nthR_map (by simpa using h)]; simp
theorem pointsL_good {p : Int} {qs : List Int} {vs : List (List Int)} {k d : Nat} (hp : 1 ≤ p) (hd : qs.length = d) : RowsG p (d + 2) (pointsL p qs vs k) := fun i hi => by
  rw [pointsL_len] at hi
  rw [pointsL_nth hi]
  exact pointL_good hp hd
def wpL (p : Int) (qs : List Int) (vs : List (List Int)) (n : Nat) : List Int := prodS p (extL p qs) tkW (pointsL p qs vs n) n
theorem prodS_cut {p : Int} {qs : List Int} {tk : Nat → Nat → Bool} {r1 r2 : List (List Int)} : ∀ k, (∀ i, i < k → nthR r1 i = nthR r2 i) → prodS p qs tk r1 k = prodS p qs tk r2 k
  | 0, _ => rfl
  | k + 1, h => by
    unfold prodS
    rw [prodS_cut k (fun i hi => h i (by omega)), h k (by omega)]
theorem wpL_succ (p : Int) (qs : List Int) (vs : List (List Int)) (k : Nat) : wpL p qs vs (k + 1) = prodL p (extL p qs) tkW (wpL p qs vs k) (vecL (2 ^ (extL p qs).length) (pointL p qs (nthR vs k))) := by
  unfold wpL
  show prodL p (extL p qs) tkW (prodS p (extL p qs) tkW (pointsL p qs vs (k + 1)) k) (vecL _ (nthR (pointsL p qs vs (k + 1)) k)) = _
  rw [pointsL_nth (by omega), prodS_cut k (fun i hi => (pointsL_nth (show i < k + 1 by omega)).trans (pointsL_nth hi).symm)]

set_option maxHeartbeats 400000 in
theorem c_WedgeOfPoints_bad (p : Int) (a : Option Addr) (d cap : Nat) (qs : List Int) (ax1 : Option Addr) (n1 cx1 : Nat) (xs1 : List (List Int)) (w : World) (hd : d ≤ 4194304) (hn1 : n1 ≤ 4194304) (hr1 : ∀ i, i < n1 → (nthR xs1 i).length ≤ 4194304) (hq : RdC w a d qs) (hx1 : RdR w ax1 n1 xs1) (hc : code18L p qs xs1 ≠ 0) :
    Calls Tryz.prog 9 #[.agg #[.int .i64 p, .slice a d cap], .slice ax1 n1 cx1] w fun e w' => ∃ ra rc, e = .returned (.tuple #[.slice ra 0 rc, .int .i64 (code18L p qs xs1)]) ∧ OwnC w.heap.size w' ra 0 rc [] ∧ Ext w w' := by
  have Hr := Lib.hid hr1
  have hcb : (code18L p qs xs1 != 0) = true := by simp [hc]
  clear hc hr1
  go_enter Tryz.func9, Tryz.ntmps9
  go_wp2_with (go_at_call 23; refine (c_checkSome p a d cap qs ax1 n1 cx1 xs1 _ hd hn1 Hr.out (hq.ext (ext_alloc _ _)) (hx1.ext (ext_alloc _ _))).mono ?_; rintro e w1 ⟨rfl, g1⟩)
  go_ret2
  exact ⟨none, 0, rfl, own_nil _ _, (ext_alloc _ _).trans g1⟩
set_option maxHeartbeats 4000000 in
set_option maxRecDepth 100000 in
theorem c_WedgeOfPoints_ok (p : Int) (a : Option Addr) (d cap : Nat) (qs : List Int) (ax1 : Option Addr) (n1 cx1 : Nat) (xs1 : List (List Int)) (w : World) (hd : d ≤ 4194304) (hn1 : n1 ≤ 4194304) (hr1 : ∀ i, i < n1 → (nthR xs1 i).length ≤ 4194304) (hq : RdC w a d qs) (hx1 : RdR w ax1 n1 xs1) (hc : code18L p qs xs1 = 0) :
    Calls Tryz.prog 9 #[.agg #[.int .i64 p, .slice a d cap], .slice ax1 n1 cx1] w fun e w' => ∃ ra rc, e = .returned (.tuple #[.slice ra (2 ^ (d + 2)) rc, .int .i64 0]) ∧ OwnC w.heap.size w' ra (2 ^ (d + 2)) rc (wpL p qs xs1 n1) ∧ Ext w w' := by
  obtain ⟨hc0, h16⟩ := code18L_zero hc
  obtain ⟨hs, h4, ha⟩ := code18_zero hc0
  obtain ⟨hpr, hd1, hd6, hqb⟩ := space_of hs
  have hpb := prime_bd hpr
  have hql := hq.1
  rw [hql] at h4 ha hd1
  obtain ⟨N, hN⟩ : ∃ N, N = 2 ^ (d + 2) := ⟨_, rfl⟩
  rw [← hN]
  have HN := Lib.hid hN
  have hN6 : N ≤ 64 := by rw [hN]; exact pow_le64 (by omega)
  have HPR := Lib.hid hpr
  have HQB := Lib.hid hqb
  have HEB := Lib.hid (extL_isB (p := p) (by omega) hqb)
  have HEL := Lib.hid (show (extL p qs).length = d + 2 by rw [extL_len, hql])
  have HQL := Lib.hid hql
  have HG := Lib.hid (rows_good ha)
  have HXL := Lib.hid hx1.1
  have HLen := Lib.hid (show ∀ i, i < n1 → (nthR xs1 i).length = d from fun i hi => (HG.out i (by rw [hx1.1]; exact hi)).1)
  have HQ := Lib.hid hq
  have HX := Lib.hid hx1
  have HC := Lib.hid hc
  have Hr := Lib.hid hr1
  have hcb : ((0 : Int) != 0) = false := by simp
  clear hc hc0 hs ha hpr hqb hq hx1 hr1 hN hql hd6 h16
  go_enter Tryz.func9, Tryz.ntmps9
  go_wp2_with (go_at_call 23; refine (c_checkSome p a d cap qs ax1 n1 cx1 xs1 _ hd hn1 Hr.out (HQ.out.ext (ext_alloc _ _)) (HX.out.ext (ext_alloc _ _))).mono ?_; rintro e w1 ⟨rfl, g1⟩; rw [HC.out]; have hq0 : w1.cell? ⟨w.heap.size, 0, none⟩ = some (.int .i64 p) := g1.cell (by simp); have hq1 : w1.cell? ⟨w.heap.size, 1, none⟩ = some (.slice a d cap) := g1.cell (by simp); have Q0 := Lib.hid hq0; have Q1 := Lib.hid hq1; have G1 := Lib.hid ((ext_alloc w (.cells #[.int .i64 p, .slice a d cap] 26)).trans g1); clear g1)
  clear hq0 hq1
  go_loopw [7, 19] (fun v i wr => ∃ (k g rc : Nat), k ≤ n1 ∧ i = .int .i64 k ∧ v = .slice (some ⟨g, 0, none⟩) k rc ∧ OwnW w1.heap.size wr (some ⟨g, 0, none⟩) k rc (pointsL p qs xs1 k) ∧ Ext w1 wr) (fun _ i _ => n1 - (intOf i).toNat)
  case atStart => exact ⟨0, _, _, Nat.zero_le _, rfl, rfl, OwnW.start _ _ _, ext_alloc _ _⟩
  case round =>
    obtain ⟨k, g, rc, hk, rfl, rfl, hown, hext⟩ := hrel
    have HOwn := Lib.hid hown
    have HExt := Lib.hid hext
    have hs0 := hext.cell Q0.out
    have hs1 := hext.cell Q1.out
    clear hown hext
    by_cases hlt : k < n1
    · obtain ⟨b, off, ak, ck, rfl, hc0, hrk⟩ := HX.out.2 k hlt
      rw [HLen.out k hlt] at hc0 hrk
      have hc0' := (G1.out.trans HExt.out).cell hc0
      have HRk := Lib.hid (hrk.ext (G1.out.trans HExt.out))
      have HGk := Lib.hid (HG.out k (by rw [HXL.out]; exact hlt))
      clear hc0 hrk
      go_wp2_with (first
        | (go_at_call 24; refine (c_point p a d cap qs ak ck (nthR xs1 k) _ hd1 h4 HPR.out (HQ.out.ext (G1.out.trans HExt.out)) HQB.out HRk.out HGk.out).mono ?_; rintro e w4 ⟨g4, r4, rfl, ho4, x4⟩; have HO4 := Lib.hid ho4; have X4 := Lib.hid x4; clear ho4 x4)
        | (at_builtin; refine wpList_pushRW (w0 := wr) rfl (.tmp 23) (.tmp 27) rfl rfl rfl HOwn.out (X4.out.trans (ext_alloc _ _)) (HO4.out.ext (ext_alloc _ _)) ?hc (by omega) HExt.out.size ?hk))
      case hc => exact cell_new _ _ rfl _ _
      case hk =>
        intro g' cap' w3 ho3 he3
        have HO3 := Lib.hid ho3
        have HE3 := Lib.hid (he3 w1 (Nat.le_refl _) ((HExt.out.trans X4.out).alloc _))
        clear ho3 he3 hs0 hs1 hc0'
        go_wp2_with (fail)
        go_roundw
        case rel => exact ⟨k + 1, g', cap', by omega, by go_num, rfl, by rw [pointsL_succ]; exact .inr HO3.out, HE3.out⟩
        case measure => simp [intOf]; omega
    · obtain rfl : k = n1 := by omega
      have HPG := Lib.hid (pointsL_good (p := p) (vs := xs1) (k := k) (show 1 ≤ p by omega) HQL.out)
      go_wp2_with (first
        | (go_at_call 25; refine (c_extended p a d cap qs _ hd1 (by omega) (by omega) (by omega) (HQ.out.ext (G1.out.trans HExt.out))).mono ?_; rintro e w4 ⟨g4, r4, rfl, ho4, x4⟩; have HO4 := Lib.hid ho4; have X4 := Lib.hid x4; clear ho4 x4)
        | (go_at_call 32; refine (c_wedgeAll HN.out p _ r4 (extL p qs) _ k rc (pointsL p qs xs1 k) _ (by omega) (by omega) (by omega) (by omega) HO4.out.rd HEB.out (HOwn.out.rd.ext X4.out) HPG.out).mono ?_; rintro e w5 ⟨g5, rfl, ho5, x5⟩; have HO5 := Lib.hid ho5; have X5 := Lib.hid x5; clear ho5 x5))
      go_ret2
      exact ⟨_, _, rfl, HO5.out.mono ((G1.out.trans HExt.out).trans X4.out).size, (G1.out.trans HExt.out).trans (X4.out.trans X5.out)⟩

set_option maxHeartbeats 400000 in
theorem s_WedgeOfPoints_bad (p : Int) (a : Option Addr) (d cap : Nat) (qs : List Int) (ax1 : Option Addr) (n1 cx1 : Nat) (xs1 : List (List Int)) (w : World) (hd : d ≤ 4194304) (hn1 : n1 ≤ 4194304) (hr1 : ∀ i, i < n1 → (nthR xs1 i).length ≤ 4194304) (hq : RdC w a d qs) (hx1 : RdR w ax1 n1 xs1) (hc : code18L p qs xs1 ≠ 0) :
    Calls Tryz.prog 10 #[.agg #[.int .i64 p, .slice a d cap], .slice ax1 n1 cx1] w fun e w' => ∃ ra rc, e = .returned (.tuple #[.slice ra 0 rc, .int .i64 (code18L p qs xs1)]) ∧ OwnC w.heap.size w' ra 0 rc [] ∧ Ext w w' := by
  have Hr := Lib.hid hr1
  have hcb : (code18L p qs xs1 != 0) = true := by simp [hc]
  clear hc hr1
  go_enter Tryz.func10, Tryz.ntmps10
  go_wp2_with (go_at_call 27; refine (s_code18L p a d cap qs ax1 n1 cx1 xs1 _ hd hn1 Hr.out (hq.ext (ext_alloc _ _)) (hx1.ext (ext_alloc _ _))).mono ?_; rintro e w1 ⟨rfl, g1⟩)
  go_ret2
  exact ⟨none, 0, rfl, own_nil _ _, (ext_alloc _ _).trans g1⟩
set_option maxHeartbeats 4000000 in
set_option maxRecDepth 100000 in
theorem s_WedgeOfPoints_ok (p : Int) (a : Option Addr) (d cap : Nat) (qs : List Int) (ax1 : Option Addr) (n1 cx1 : Nat) (xs1 : List (List Int)) (w : World) (hd : d ≤ 4194304) (hn1 : n1 ≤ 4194304) (hr1 : ∀ i, i < n1 → (nthR xs1 i).length ≤ 4194304) (hq : RdC w a d qs) (hx1 : RdR w ax1 n1 xs1) (hc : code18L p qs xs1 = 0) :
    Calls Tryz.prog 10 #[.agg #[.int .i64 p, .slice a d cap], .slice ax1 n1 cx1] w fun e w' => ∃ ra rc, e = .returned (.tuple #[.slice ra (2 ^ (d + 2)) rc, .int .i64 0]) ∧ OwnC w.heap.size w' ra (2 ^ (d + 2)) rc (wpL p qs xs1 n1) ∧ Ext w w' := by
  obtain ⟨hc0, h16⟩ := code18L_zero hc
  obtain ⟨hs, h4, ha⟩ := code18_zero hc0
  obtain ⟨hpr, hd1, hd6, hqb⟩ := space_of hs
  have hpb := prime_bd hpr
  have hql := hq.1
  rw [hql] at h4 ha hd1
  obtain ⟨N, hN⟩ : ∃ N, N = 2 ^ (d + 2) := ⟨_, rfl⟩
  rw [← hN]
  have HN := Lib.hid hN
  have hN6 : N ≤ 64 := by rw [hN]; exact pow_le64 (by omega)
  have HPR := Lib.hid hpr
  have HQB := Lib.hid hqb
  have HEB := Lib.hid (extL_isB (p := p) (by omega) hqb)
  have HEL := Lib.hid (show (extL p qs).length = d + 2 by rw [extL_len, hql])
  have HQL := Lib.hid hql
  have HG := Lib.hid (rows_good ha)
  have HXL := Lib.hid hx1.1
  have HLen := Lib.hid (show ∀ i, i < n1 → (nthR xs1 i).length = d from fun i hi => (HG.out i (by rw [hx1.1]; exact hi)).1)
  have HQ := Lib.hid hq
  have HX := Lib.hid hx1
  have HC := Lib.hid hc
  have Hr := Lib.hid hr1
  have hcb : ((0 : Int) != 0) = false := by simp
  clear hc hc0 hs ha hpr hqb hq hx1 hr1 hN hql hd6 h16
  go_enter Tryz.func10, Tryz.ntmps10
  go_wp2_with (first | (go_at_call 27; refine (s_code18L p a d cap qs ax1 n1 cx1 xs1 _ hd hn1 Hr.out (HQ.out.ext (ext_alloc _ _)) (HX.out.ext (ext_alloc _ _))).mono ?_; rintro e w1 ⟨rfl, g1⟩; rw [HC.out]; have hq0 : w1.cell? ⟨w.heap.size, 0, none⟩ = some (.int .i64 p) := g1.cell (by simp); have hq1 : w1.cell? ⟨w.heap.size, 1, none⟩ = some (.slice a d cap) := g1.cell (by simp); have Q0 := Lib.hid hq0; have Q1 := Lib.hid hq1; have G1 := Lib.hid ((ext_alloc w (.cells #[.int .i64 p, .slice a d cap] 26)).trans g1); clear g1) | (go_at_call 28; refine (s_extended p a d cap qs _ hd1 (by omega) (by omega) (by omega) (HQ.out.ext G1.out)).mono ?_; rintro e w2 ⟨g2, r2, rfl, ho2, x2⟩; have HO2 := Lib.hid ho2; have X2 := Lib.hid x2; clear ho2 x2))
  obtain ⟨W, hW⟩ : ∃ W, W = w2.alloc (.cells #[.int .i64 p, .slice (some ⟨g2, 0, none⟩) (d + 2) r2] 26) := ⟨_, rfl⟩
  have gW : Ext w2 W := by rw [hW]; exact ext_alloc _ _
  have ho0 : W.cell? ⟨w2.heap.size, 0, none⟩ = some (.int .i64 p) := by rw [hW]; simp
  have ho1 : W.cell? ⟨w2.heap.size, 1, none⟩ = some (.slice (some ⟨g2, 0, none⟩) (d + 2) r2) := by rw [hW]; simp
  have O0 := Lib.hid ho0
  have O1 := Lib.hid ho1
  have S0 := Lib.hid ((X2.out.trans gW).cell Q0.out)
  have S1 := Lib.hid ((X2.out.trans gW).cell Q1.out)
  have HE2 := Lib.hid (HO2.out.ext gW)
  have GW := Lib.hid ((G1.out.trans X2.out).trans gW)
  rw [← hW]
  clear hq0 hq1 gW hW
  refine (s_oneN HN.out p _ r2 W (by omega)).mono ?_
  rintro e w3 ⟨g3, rfl, ho3, x3⟩
  have HO3 := Lib.hid (ho3.mono GW.out.size)
  have X3 := Lib.hid x3
  clear ho3 x3 ho0 ho1
  go_wp2_with (fail)
  have HD := Lib.hid (show N = 2 ^ (extL p qs).length by rw [HEL.out]; exact HN.out)
  go_loopw [8, 9] (fun v i wr => ∃ (k g : Nat), k ≤ n1 ∧ i = .int .i64 k ∧ v = .slice (some ⟨g, 0, none⟩) N N ∧ OwnC w.heap.size wr (some ⟨g, 0, none⟩) N N (wpL p qs xs1 k) ∧ Ext W wr) (fun _ i _ => n1 - (intOf i).toNat)
  case atStart => exact ⟨0, g3, Nat.zero_le _, rfl, rfl, by show OwnC _ _ _ _ _ (bladeL (2 ^ (extL p qs).length) 0); rw [← HD.out]; exact HO3.out, X3.out⟩
  case round =>
    obtain ⟨k, g, hk, rfl, rfl, hown, hext⟩ := hrel
    have HOwn := Lib.hid hown
    have HExt := Lib.hid hext
    clear hown hext
    by_cases hlt : k < n1
    · obtain ⟨b, off, ak, ck, rfl, hc0, hrk⟩ := HX.out.2 k hlt
      rw [HLen.out k hlt] at hc0 hrk
      have GX := Lib.hid (GW.out.trans (HExt.out.trans (ext_drew wr)))
      have HCk := Lib.hid (GX.out.cell hc0)
      have HRk := Lib.hid hrk
      have HGk := Lib.hid (HG.out k (by rw [HXL.out]; exact hlt))
      have HPk := Lib.hid (pointL_good (p := p) (v := nthR xs1 k) (show 1 ≤ p by omega) HQL.out)
      have HVk : Hid (Good p N (vecL N (pointL p qs (nthR xs1 k)))) := Lib.hid (vec_good (by omega) HPk.out)
      have HPS : Hid (Good p N (wpL p qs xs1 k)) := Lib.hid (by rw [HD.out]; exact prodS_good (by omega) k)
      have E0 := Lib.hid (HExt.out.trans (ext_drew wr))
      have T0 := Lib.hid (E0.out.cell S0.out)
      have T1 := Lib.hid (E0.out.cell S1.out)
      have U0 := Lib.hid (E0.out.cell O0.out)
      have U1 := Lib.hid (E0.out.cell O1.out)
      have HE3 := Lib.hid (HE2.out.ext E0.out)
      have HO8 := Lib.hid (HOwn.out.ext (ext_drew wr))
      clear hc0 hrk
      go_wp2_with (fail)
      refine wp_region_lex [(8, .ownS w.heap.size (d + 2) (pointL p qs (nthR xs1 k))), (9, .ownG w.heap.size N (vecL N (pointL p qs (nthR xs1 k)))), (10, .ownG w.heap.size N (prodL p (extL p qs) tkW (wpL p qs xs1 k) (vecL N (pointL p qs (nthR xs1 k)))))] (by kernel_rfl) (by kernel_rfl) ?_
      (refine LexW.pure (v := ?_) rfl rfl (fun w1 he => ?_) ?_; rotate_left; ( have e1 := he.cell T0.out; have e2 := he.cell T1.out; have e3 := he.cell U0.out; have e4 := he.cell U1.out; have e5 := he.cell HCk.out; go_simp; rfl); simp only [Act.put, List.setIfInBounds_toArray, List.set_cons_zero, List.set_cons_succ])
      (refine LexW.pure (v := ?_) rfl rfl (fun w1 he => ?_) ?_; rotate_left; ( have e1 := he.cell T0.out; have e2 := he.cell T1.out; have e3 := he.cell U0.out; have e4 := he.cell U1.out; have e5 := he.cell HCk.out; go_simp; rfl); simp only [Act.put, List.setIfInBounds_toArray, List.set_cons_zero, List.set_cons_succ])
      (refine LexW.pure (v := ?_) rfl rfl (fun w1 he => ?_) ?_; rotate_left; ( have e1 := he.cell T0.out; have e2 := he.cell T1.out; have e3 := he.cell U0.out; have e4 := he.cell U1.out; have e5 := he.cell HCk.out; go_simp; rfl); simp only [Act.put, List.setIfInBounds_toArray, List.set_cons_zero, List.set_cons_succ])
      (refine LexW.pure (v := ?_) rfl rfl (fun w1 he => ?_) ?_; rotate_left; ( have e1 := he.cell T0.out; have e2 := he.cell T1.out; have e3 := he.cell U0.out; have e4 := he.cell U1.out; have e5 := he.cell HCk.out; go_simp; rfl); simp only [Act.put, List.setIfInBounds_toArray, List.set_cons_zero, List.set_cons_succ])
      (refine LexW.pure (v := ?_) rfl rfl (fun w1 he => ?_) ?_; rotate_left; ( have e1 := he.cell T0.out; have e2 := he.cell T1.out; have e3 := he.cell U0.out; have e4 := he.cell U1.out; have e5 := he.cell HCk.out; go_simp; rfl); simp only [Act.put, List.setIfInBounds_toArray, List.set_cons_zero, List.set_cons_succ])
      (refine LexW.pure (v := ?_) rfl rfl (fun w1 he => ?_) ?_; rotate_left; ( have e1 := he.cell T0.out; have e2 := he.cell T1.out; have e3 := he.cell U0.out; have e4 := he.cell U1.out; have e5 := he.cell HCk.out; go_simp; rfl); simp only [Act.put, List.setIfInBounds_toArray, List.set_cons_zero, List.set_cons_succ])
      (refine LexW.pure (v := ?_) rfl rfl (fun w1 he => ?_) ?_; rotate_left; ( have e1 := he.cell T0.out; have e2 := he.cell T1.out; have e3 := he.cell U0.out; have e4 := he.cell U1.out; have e5 := he.cell HCk.out; go_simp; rfl); simp only [Act.put, List.setIfInBounds_toArray, List.set_cons_zero, List.set_cons_succ])
      (refine LexW.pure (v := ?_) rfl rfl (fun w1 he => ?_) ?_; rotate_left; ( have e1 := he.cell T0.out; have e2 := he.cell T1.out; have e3 := he.cell U0.out; have e4 := he.cell U1.out; have e5 := he.cell HCk.out; go_simp; rfl); simp only [Act.put, List.setIfInBounds_toArray, List.set_cons_zero, List.set_cons_succ])
      (refine LexW.callR (f := ?_) (args := ?_) rfl rfl (fun w1 => ?_) (fun w1 he hdep => ?_) (fun v hv => ?_); rotate_left 2; (go_simp; refine ⟨?_, ?_⟩ <;> rfl); ( refine (s_point p a d cap qs ak ck (nthR xs1 k) w1 hd1 h4 HPR.out (HQ.out.ext (GX.out.trans he)) HQB.out (HRk.out.ext (GX.out.trans he)) HGk.out).mono ?_; rintro e w2 ⟨g, rc, rfl, ho, g2⟩; exact ⟨_, rfl, g2, g, rc, rfl, ho.mono (Nat.le_trans GX.out.size he.size)⟩); simp only [Act.put, List.setIfInBounds_toArray, List.set_cons_zero, List.set_cons_succ])
      obtain ⟨_, g34, c34, rfl, _⟩ := hv
      (refine LexW.callR (f := ?_) (args := ?_) rfl rfl (fun w1 => ?_) (fun w1 he hdep => ?_) (fun v hv => ?_); rotate_left 2; (go_simp; refine ⟨?_, ?_⟩ <;> rfl); ( obtain ⟨_, _, q34, r34⟩ : (SPred.ownS w.heap.size (d + 2) (pointL p qs (nthR xs1 k))).holds (.slice (some ⟨g34, 0, none⟩) (d + 2) c34) w1 := hdep (8, 34) (by decide +kernel); cases q34; refine (s_vector HN.out p _ r2 _ c34 (pointL p qs (nthR xs1 k)) w1 (by omega) r34.rd).mono ?_; rintro e w2 ⟨g, rfl, ho, g2⟩; exact ⟨_, rfl, g2, g, rfl, ho.mono (Nat.le_trans GX.out.size he.size)⟩); simp only [Act.put, List.setIfInBounds_toArray, List.set_cons_zero, List.set_cons_succ])
      obtain ⟨_, g35, rfl, _⟩ := hv
      (refine LexW.callR (f := ?_) (args := ?_) rfl rfl (fun w1 => ?_) (fun w1 he hdep => ?_) (fun v hv => ?_); rotate_left 2; (go_simp; refine ⟨?_, ?_⟩ <;> rfl); ( obtain ⟨_, q35, r35⟩ : (SPred.ownG w.heap.size N (vecL N (pointL p qs (nthR xs1 k)))).holds (.slice (some ⟨g35, 0, none⟩) N N) w1 := hdep (9, 35) (by decide +kernel); cases q35; refine (s_wedgeN HN.out p _ r2 (extL p qs) _ _ N N (wpL p qs xs1 k) (vecL N (pointL p qs (nthR xs1 k))) w1 (by omega) (by omega) (by omega) (HE3.out.rd.ext he) HEB.out (HO8.out.rd.ext he) r35.rd HPS.out.isB HVk.out.isB).mono ?_; rintro e w2 ⟨g, rfl, ho, g2⟩; exact ⟨_, rfl, g2, g, rfl, ho.mono (Nat.le_trans GX.out.size he.size)⟩); simp only [Act.put, List.setIfInBounds_toArray, List.set_cons_zero, List.set_cons_succ])
      obtain ⟨_, g36, rfl, _⟩ := hv
      (refine LexW.pure (v := ?_) rfl rfl (fun w1 he => ?_) ?_; rotate_left; ( have e1 := he.cell T0.out; have e2 := he.cell T1.out; have e3 := he.cell U0.out; have e4 := he.cell U1.out; have e5 := he.cell HCk.out; go_simp; rfl); simp only [Act.put, List.setIfInBounds_toArray, List.set_cons_zero, List.set_cons_succ])
      refine LexW.nil (fun w3 he hkn => ?_)
      obtain ⟨_, q36, r36⟩ : (SPred.ownG w.heap.size N (prodL p (extL p qs) tkW (wpL p qs xs1 k) (vecL N (pointL p qs (nthR xs1 k))))).holds (.slice (some ⟨g36, 0, none⟩) N N) w3 := hkn (10, _) (by simp)
      cases q36
      have R36 := Lib.hid r36
      have HE := Lib.hid (GX.out.trans he)
      have X4 := Lib.hid (E0.out.trans he)
      clear he hkn r36
      go_wp2_with (fail)
      go_roundw
      case rel => exact ⟨k + 1, g36, by omega, by go_num, rfl, by rw [wpL_succ, ← HD.out]; exact R36.out, X4.out⟩
      case measure => simp [intOf]; omega
    · go_wp2_with (fail)
      go_ret2
      obtain rfl : k = n1 := by omega
      exact ⟨_, _, rfl, HOwn.out, GW.out.trans HExt.out⟩

end Go.Proofs.YtcocbainookkcaaGreat
