/-
  Contracts and plain laws, part 7: AppV, MTimes, DecW, DecV.
  No condition.
-/
import Derived.Test.YtnabpmafcflljaaPart6
import Derived.Test.YtnabpmafcflljaaPart5
import Derived.Test.YtnabpmafcflljaaPart3
/-
  A list of the call's own whose rows are only read; appends to it.
  No condition.
-/
namespace Go.Proofs.Ytnabpmafcflljaa
set_option maxRecDepth 100000
open Go.RowKit

/-- A list of the call's own (from block B on); its rows are rows of numbers in blocks of numbers. -/
def OwnV (B : Nat) (w : World) (a : Option Addr) (n cap : Nat) (rows : List (List Int)) : Prop :=
  rows.length = n ∧ ∃ vs : List Value, w.ownsRow B 22 1 (.slice a n cap) n vs ∧
    ∀ i, i < n → ∃ ai ci, vs[i]? = some (.slice ai (nthR rows i).length ci) ∧ OwnC 0 w ai (nthR rows i).length ci (nthR rows i)
theorem OwnR.toV {B : Nat} {w : World} {a : Option Addr} {n cap : Nat} {rows : List (List Int)} (h : OwnR B w a n cap rows) : OwnV B w a n cap rows := by
  obtain ⟨h1, vs, h2, _, h4⟩ := h
  exact ⟨h1, vs, h2, fun i hi => by
    obtain ⟨ai, ci, h5, h6⟩ := h4 i hi
    exact ⟨ai, ci, h5, h6.mono (Nat.zero_le _)⟩⟩
theorem OwnV.ext {B : Nat} {w w' : World} {a : Option Addr} {n cap : Nat} {rows : List (List Int)} (h : OwnV B w a n cap rows) (he : Ext w w') : OwnV B w' a n cap rows := by
  obtain ⟨h1, vs, h2, h4⟩ := h
  refine ⟨h1, vs, ownsRow_ext h2 he, fun i hi => ?_⟩
  obtain ⟨ai, ci, h5, h6⟩ := h4 i hi
  exact ⟨ai, ci, h5, h6.ext he⟩
theorem OwnV.blk {B : Nat} {w : World} {a : Option Addr} {n cap : Nat} {rows : List (List Int)} (h : OwnV B w a n cap rows) : ∀ k, (Value.slice a n cap).ownBlock = some k → B ≤ k ∧ k < w.heap.size := by
  intro k hk
  obtain ⟨_, vs, h2, _⟩ := h
  exact h2.lt k hk
theorem OwnV.rd {B : Nat} {w : World} {a : Option Addr} {n cap : Nat} {rows : List (List Int)} (h : OwnV B w a n cap rows) : RdR w a n rows := by
  obtain ⟨h1, vs, ⟨h2, h3⟩, h4⟩ := h
  refine ⟨h1, fun i hi => ?_⟩
  rcases h3 with ⟨_, h3⟩ | ⟨g, c, cur, hv, hb, hh, hc1, hc2, hc3, hc4⟩
  · omega
  · simp only [Value.slice.injEq] at hv
    obtain ⟨hv1, _, _⟩ := hv
    obtain ⟨ai, ci, h5, h6⟩ := h4 i hi
    refine ⟨g, 0, ai, ci, hv1, ?_, h6.rd⟩
    rw [← hc4, List.getElem?_take_of_lt (by omega), Array.getElem?_toList] at h5
    simp only [World.cell?, hh]
    simpa using h5
/-- The same, or the empty list that was made at the start. -/
def OwnX (B : Nat) (w : World) (a : Option Addr) (n cap : Nat) (rows : List (List Int)) : Prop :=
  (n = 0 ∧ cap = 0 ∧ rows = [] ∧ ∃ g, a = some ⟨g, 0, none⟩ ∧ g < w.heap.size) ∨ OwnV B w a n cap rows
theorem OwnX.rd {B : Nat} {w : World} {a : Option Addr} {n cap : Nat} {rows : List (List Int)} (h : OwnX B w a n cap rows) : RdR w a n rows := by
  rcases h with ⟨rfl, _, rfl, _⟩ | h
  · exact ⟨rfl, fun i hi => by omega⟩
  · exact h.rd
theorem OwnX.ext {B : Nat} {w w' : World} {a : Option Addr} {n cap : Nat} {rows : List (List Int)} (h : OwnX B w a n cap rows) (he : Ext w w') : OwnX B w' a n cap rows := by
  rcases h with ⟨h1, h2, h3, g, h4, h5⟩ | h
  · exact .inl ⟨h1, h2, h3, g, h4, Nat.lt_of_lt_of_le h5 he.size⟩
  · exact .inr (h.ext he)

theorem run_appendV {B : Nat} {w : World} {ra : Option Addr} {n cap : Nat} {rows : List (List Int)} {g2 m c2 : Nat} {rows2 : List (List Int)} {us : List Value} (hown : OwnV B w ra n cap rows) (hul : us.length = m) (h2l : rows2.length = m) (hcell : ∀ j u, us[j]? = some u → w.cell? ⟨g2, j, none⟩ = some u) (x4 : ∀ i, i < m → ∃ ai ci, us[i]? = some (.slice ai (nthR rows2 i).length ci) ∧ OwnC 0 w ai (nthR rows2 i).length ci (nthR rows2 i)) (hm : 0 < m) (hn : n ≤ 4194304) (hml : m ≤ 4194304) (hB : B ≤ w.heap.size) (ty : TypeId) :
    ∃ g' cap' w', (Builtin.append_ #[25, 25] ty #[.slice ra n cap, .slice (some ⟨g2, 0, none⟩) m c2]).run Try.prog w = .ok (.slice (some ⟨g', 0, none⟩) (n + m) cap') w' ∧
      OwnV B w' (some ⟨g', 0, none⟩) (n + m) cap' (rows ++ rows2) ∧ w.grownBy w' (Value.slice ra n cap).ownBlock ∧ (g' = w.heap.size ∨ (Value.slice ra n cap).ownBlock = some g') ∧ (∀ W : World, W.heap.size ≤ B → Ext W w → Ext W w') := by
  obtain ⟨i0, hi, hz0, hz1, hz2⟩ := info_parts Try.infoR
  have hown0 := hown
  obtain ⟨h1, vs, h2, h4⟩ := hown
  have hvl : vs.length = n := by have := h2.1; omega
  obtain ⟨v', w', hr, h5, h6, _, hbk⟩ := run_append_own_at (P := Try.prog) w B 25 ty 22 i0 (.slice none 0 0) 1 24 Try.underlying25 hi hz0 hz1 hz2 rfl (by decide) (.slice ra n cap) n vs h2
    ⟨g2, 0, none⟩ m c2 us (by omega) (fun j u hj => by
      have := hcell j u hj
      by_cases hj0 : j = 0
      · subst hj0; simpa [Addr.add] using this
      · simpa [Addr.add, hj0] using this) (fun u hu => by
        obtain ⟨j, hj, rfl⟩ := List.getElem_of_mem hu
        obtain ⟨ai, ci, h7, _⟩ := x4 j (by omega)
        rw [List.getElem?_eq_getElem hj] at h7
        rw [Option.some.inj h7]; rfl) (by unfold maxLen; omega) (by omega) hB
  have form : ∃ g cap, v' = .slice (some ⟨g, 0, none⟩) (n + m) cap := by
    rcases h5.2 with ⟨_, h3⟩ | ⟨g, c, cur, hv, _⟩
    · omega
    · exact ⟨g, c, hv⟩
  obtain ⟨g', cap', rfl⟩ := form
  refine ⟨g', cap', w', hr, ⟨by simp [h1, h2l], vs ++ us, h5, fun i hin => ?_⟩, h6, hbk.elim (fun h => .inr h.symm) (fun h => .inl (Option.some.inj h)), fun W hW hE => hE.grown h6 fun k hk => Nat.le_trans hW (hown0.blk k hk).1⟩
  by_cases hlt : i < n
  · obtain ⟨ai, ci, h7, h8⟩ := h4 i hlt
    have e : nthR (rows ++ rows2) i = nthR rows i := by simp [nthR, List.getElem?_append_left (show i < rows.length by omega)]
    rw [e]
    exact ⟨ai, ci, by rw [List.getElem?_append_left (by omega)]; exact h7, h8.grown h6 (own_apart h2 h8)⟩
  · obtain ⟨ai, ci, h7, h8⟩ := x4 (i - n) (by omega)
    have e : nthR (rows ++ rows2) i = nthR rows2 (i - n) := by
      unfold nthR
      rw [List.getD_eq_getElem?_getD, List.getD_eq_getElem?_getD, List.getElem?_append_right (by omega), h1]
    rw [e]
    exact ⟨ai, ci, by rw [List.getElem?_append_right (by omega), hvl]; exact h7, h8.grown h6 (own_apart h2 h8)⟩
theorem OwnV.nil (B : Nat) (w : World) : OwnV B w none 0 0 [] := (OwnR.nil B w).toV

theorem run_appendX {B : Nat} {w : World} {ra : Option Addr} {n cap : Nat} {rows : List (List Int)} {g2 m c2 : Nat} {rows2 : List (List Int)} {us : List Value} (hown : OwnX B w ra n cap rows) (hul : us.length = m) (h2l : rows2.length = m) (hcell : ∀ j u, us[j]? = some u → w.cell? ⟨g2, j, none⟩ = some u) (x4 : ∀ i, i < m → ∃ ai ci, us[i]? = some (.slice ai (nthR rows2 i).length ci) ∧ OwnC 0 w ai (nthR rows2 i).length ci (nthR rows2 i)) (hm : 0 < m) (hn : n ≤ 4194304) (hml : m ≤ 4194304) (hB : B ≤ w.heap.size) (ty : TypeId) :
    ∃ g' cap' w' row, (Builtin.append_ #[25, 25] ty #[.slice ra n cap, .slice (some ⟨g2, 0, none⟩) m c2]).run Try.prog w = .ok (.slice (some ⟨g', 0, none⟩) (n + m) cap') w' ∧
      OwnV B w' (some ⟨g', 0, none⟩) (n + m) cap' (rows ++ rows2) ∧ w.grownBy w' row ∧ (row = none ∨ OwnV B w ra n cap rows ∧ row = (Value.slice ra n cap).ownBlock) ∧ (g' = w.heap.size ∨ row = some g') ∧ (∀ W : World, W.heap.size ≤ B → Ext W w → Ext W w') := by
  rcases hown with ⟨rfl, rfl, rfl, g0, rfl, _⟩ | hown
  · obtain ⟨g', cap', w', h1, h2, h3, h4, h5⟩ := run_appendV (OwnV.nil B w) hul h2l hcell x4 hm hn hml hB ty
    refine ⟨g', cap', w', none, ?_, h2, h3, .inl rfl, ?_, h5⟩
    · rw [append_emptyN w _ _ m c2 us ty hul (fun j u hj => by
        have := hcell j u hj
        by_cases hj0 : j = 0
        · subst hj0; simpa [Addr.add] using this
        · simpa [Addr.add, hj0] using this) hm hml]; exact h1
    · rcases h4 with h | h
      · exact .inl h
      · simp [Value.ownBlock] at h
  · obtain ⟨g', cap', w', h1, h2, h3, h4, h5⟩ := run_appendV hown hul h2l hcell x4 hm hn hml hB ty
    exact ⟨g', cap', w', _, h1, h2, h3, .inr ⟨hown, rfl⟩, h4, h5⟩

theorem wpList_appendX {ops : Array Oper} {rest : List Oper} {o : Oper} {a : Act} {Q : Exit → Act → World → Prop} {w : World} (hgd : o.guard = none) (s x : Operand)
    (ho : o.op = .call { callee := .builtin .append, args := #[s, x], argTypes := #[25, 25] })
    {B : Nat} {ra : Option Addr} {n cap : Nat} {rows : List (List Int)} {g2 m c2 : Nat} {rows2 : List (List Int)} {us : List Value} (hs : a.eval s = .slice ra n cap) (hx : a.eval x = .slice (some ⟨g2, 0, none⟩) m c2)
    (hown : OwnX B w ra n cap rows) (hul : us.length = m) (h2l : rows2.length = m) (hcell : ∀ j u, us[j]? = some u → w.cell? ⟨g2, j, none⟩ = some u) (x4 : ∀ i, i < m → ∃ ai ci, us[i]? = some (.slice ai (nthR rows2 i).length ci) ∧ OwnC 0 w ai (nthR rows2 i).length ci (nthR rows2 i)) (hm : 0 < m) (hn : n ≤ 4194304) (hml : m ≤ 4194304) (hB : B ≤ w.heap.size)
    (h : ∀ g' cap' w' row, OwnV B w' (some ⟨g', 0, none⟩) (n + m) cap' (rows ++ rows2) → w.grownBy w' row → (row = none ∨ OwnV B w ra n cap rows ∧ row = (Value.slice ra n cap).ownBlock) → (g' = w.heap.size ∨ row = some g') → (∀ W : World, W.heap.size ≤ B → Ext W w → Ext W w') →
      wpList Try.prog ops Q rest (a.put o.dst (.slice (some ⟨g', 0, none⟩) (n + m) cap')) w') : wpList Try.prog ops Q (o :: rest) a w := by
  refine wpList_plain hgd fun K hK => ?_
  obtain ⟨g', cap', w', row, hr, h1, h2, h3, h4, h5⟩ := run_appendX (c2 := c2) hown hul h2l hcell x4 hm hn hml hB o.type
  unfold Oper.wp execOp
  simp only [ho, resolve, invoke, builtin, Sem.run_bind, Sem.run_pure, Result.andThen_ok, List.map_toArray, List.map_cons, List.map_nil, hs, hx, hr]
  exact hK _ _ (h g' cap' w' row h1 h2 h3 h4 h5)

/-- Owned rows stay, where another block is grown. -/
theorem OwnR.grown3 {B : Nat} {w w' : World} {g n cap : Nat} {rows : List (List Int)} {row : Option Nat} (h : OwnR B w (some ⟨g, 0, none⟩) n cap rows) (hg : w.grownBy w' row) (hne : row ≠ some g) (hin : ∀ i ai ci, i < n → OwnC B w ai (nthR rows i).length ci (nthR rows i) → ∀ k, ai = some ⟨k, 0, none⟩ → row ≠ some k) : OwnR B w' (some ⟨g, 0, none⟩) n cap rows := by
  have hlt := h.base_of g rfl
  obtain ⟨h1, vs, hv, hap, h4⟩ := h
  refine ⟨h1, vs, ⟨hv.1, ?_⟩, hap, fun i hi => ?_⟩
  · rcases hv.2 with h3 | ⟨g1, c, cur, hv, hb, hh, h4⟩
    · exact .inl h3
    · refine .inr ⟨g1, c, cur, hv, hb, ?_, h4⟩
      simp only [Value.slice.injEq, Option.some.injEq, Addr.mk.injEq] at hv
      obtain ⟨⟨rfl, _⟩, _⟩ := hv
      rw [hg.block g hlt.2 (fun e => hne e.symm)]; exact hh
  · obtain ⟨ai, ci, h5, h6⟩ := h4 i hi
    exact ⟨ai, ci, h5, h6.grown hg (hin i ai ci hi h6)⟩

/-- A matrix from before a world, or one of the call's own in another block than g. -/
def MatX (W w : World) (g : Nat) (a : Option Addr) (d cap : Nat) (rows : List (List Int)) : Prop :=
  RdR W a d rows ∨ ∃ gm, a = some ⟨gm, 0, none⟩ ∧ gm ≠ g ∧ OwnR W.heap.size w (some ⟨gm, 0, none⟩) d cap rows
theorem MatX.rd {W w : World} {g : Nat} {a : Option Addr} {d cap : Nat} {rows : List (List Int)} (h : MatX W w g a d cap rows) (he : Ext W w) : RdR w a d rows := by
  rcases h with h | ⟨gm, rfl, _, h⟩
  · exact h.ext he
  · exact h.rd
theorem MatX.ext {W w w' : World} {g : Nat} {a : Option Addr} {d cap : Nat} {rows : List (List Int)} (h : MatX W w g a d cap rows) (he : Ext w w') : MatX W w' g a d cap rows := by
  rcases h with h | ⟨gm, h1, h2, h⟩
  · exact .inl h
  · exact .inr ⟨gm, h1, h2, h.ext he⟩
theorem MatX.app {W w w' : World} {g g' n c : Nat} {a : Option Addr} {d cap : Nat} {rows out : List (List Int)} {row : Option Nat} {B : Nat} (h : MatX W w g a d cap rows) (hg : w.grownBy w' row) (hr : row = none ∨ OwnV B w (some ⟨g, 0, none⟩) n c out ∧ row = (Value.slice (some ⟨g, 0, none⟩) n c).ownBlock) (hn : g' = w.heap.size ∨ row = some g') : MatX W w' g' a d cap rows := by
  rcases h with h | ⟨gm, rfl, h2, h⟩
  · exact .inl h
  · have hb := (h.base_of gm rfl).2
    have hrow : row = none ∨ row = some g := by
      rcases hr with hr | ⟨hv, hr⟩
      · exact .inl hr
      · right; rw [hr]
        by_cases hc : c = 0
        · obtain ⟨_, vs, h3, _⟩ := hv
          rcases h3.2 with ⟨h3, _⟩ | ⟨g1, c1, cur, h3, _⟩
          · cases h3
          · rfl
        · rfl
    refine .inr ⟨gm, rfl, ?_, h.grown3 hg ?_ ?_⟩
    · rcases hn with hn | hn
      · omega
      · rcases hrow with e | e
        · rw [e] at hn; cases hn
        · rw [e] at hn; cases hn; exact h2
    · rcases hrow with e | e
      · rw [e]; exact fun h => by cases h
      · rw [e]; exact fun h => h2 (Option.some.inj h).symm
    · intro i ai ci _ hi k hk
      rcases hr with hr | ⟨hv, hr⟩
      · rw [hr]; exact fun h => by cases h
      · obtain ⟨_, vs, h3, _⟩ := hv
        rw [hr]; exact own_apart h3 hi k hk
end Go.Proofs.Ytnabpmafcflljaa

/-
  Matrices of the reference: the unit matrix and products.
  No condition.
-/
namespace Go.Proofs.Ytnabpmafcflljaa
set_option maxRecDepth 100000
open Go.RowKit

set_option maxHeartbeats 1000000 in
theorem s_unit (n : Nat) (w : World) (hl : n ≤ 1048576) :
    Calls Try.prog 90 #[.int .i64 n] w fun e w' => ∃ g rc, e = .returned (.slice (some ⟨g, 0, none⟩) n rc) ∧ OwnR w.heap.size w' (some ⟨g, 0, none⟩) n rc (unitL n n) ∧ Ext w w' := by
  go_enter Try.func90, Try.ntmps90
  go_wp2_with (fail)
  go_loopw [3, 4] (fun v i wr => ∃ (k g rc : Nat), k ≤ n ∧ i = .int .i64 k ∧ v = .slice (some ⟨g, 0, none⟩) k rc ∧ OwnR w.heap.size wr (some ⟨g, 0, none⟩) k rc (unitL n k) ∧ Ext w wr) (fun _ i _ => n - (intOf i).toNat)
  case atStart => exact ⟨0, _, _, Nat.zero_le _, rfl, rfl, ownR_empty w, ext_alloc _ _⟩
  case round =>
    obtain ⟨k, g, rc, hk, rfl, rfl, hown, hext⟩ := hrel
    have HOwn := Lib.hid hown
    have HExt := Lib.hid hext
    clear hown hext
    by_cases hlt : k < n
    · obtain ⟨w0, hmk, hown0, hext0⟩ := make_ints wr n (by omega)
      obtain ⟨g0, hg0⟩ : ∃ g, g = wr.heap.size := ⟨_, rfl⟩
      rw [← hg0] at hmk hown0
      have hge : wr.heap.size ≤ g0 := by omega
      have HO0 := Lib.hid hown0
      have HE0 := Lib.hid hext0
      have hcg := hown0.cell hlt
      have hfz := hown0.frozen k
      clear hown0 hext0 hg0
      go_wp2_with (at_builtin; refine wpList_pushR (w0 := wr) rfl (.tmp 17) (.tmp 19) rfl rfl rfl HOwn.out ((HE0.out.setCell hge _).trans (ext_alloc _ _)) (xs := bladeL n k) (((HO0.out.store hlt 1).mono hge).ext (ext_alloc _ _)) ?hc (by omega) HExt.out.size ?hk)
      case hc => exact cell_new _ _ (by simp) _ _
      case hk =>
        intro g' cap' w3 ho3 hg3 he3
        have HO3 := Lib.hid ho3
        have HE3 := Lib.hid (he3 w (Nat.le_refl _) ((HExt.out.trans (HE0.out.setCell hge _)).alloc _))
        clear ho3 hg3 he3
        go_wp2_with (fail)
        go_roundw
        case rel => exact ⟨k + 1, g', cap', by omega, by go_num, rfl, by rw [unitL_succ]; exact HO3.out, HE3.out⟩
        case measure => simp [intOf]; omega
    · go_wp2_with (fail)
      go_ret
      obtain rfl : k = n := by omega
      exact ⟨g, rc, rfl, HOwn.out, HExt.out⟩

/-- The sum as the reference makes it. -/
def mS (p : Int) (x : List Int) (b : List (List Int)) (t : Nat) : Nat → Int
  | 0 => 0
  | j + 1 => (mS p x b t j + nth x j * nth (nthR b j) t) % p
theorem mS_bd {p : Int} {x : List Int} {b : List (List Int)} {t : Nat} (hp : 1 ≤ p) : ∀ j, 0 ≤ mS p x b t j ∧ mS p x b t j < p
  | 0 => by unfold mS; omega
  | j + 1 => ⟨Int.emod_nonneg _ (by omega), Int.emod_lt_of_pos _ (by omega)⟩
theorem colL_at {b : List (List Int)} {t m j : Nat} (hj : j < m) : nth (colL b t m) j = nth (nthR b j) t := by
  unfold colL; rw [nth_map (by simpa using hj)]; simp
theorem mS_dot {p : Int} {x : List Int} {b : List (List Int)} {t m : Nat} (hp : 1 ≤ p) : ∀ j, j ≤ m → mS p x b t j = dotS (colL b t m) x j % p
  | 0, _ => by unfold mS dotS; simp
  | j + 1, hj => by
    unfold mS dotS
    rw [mS_dot (m := m) hp j (by omega), colL_at (show j < m by omega), Int.add_emod, Int.emod_emod, ← Int.add_emod, Int.mul_comm]
theorem mS_app {p : Int} {x : List Int} {b : List (List Int)} {t m k : Nat} (hp : 1 ≤ p) (ht : t < k) : mS p x b t m = dotL p (nthR (turnL b m k) t) x m := by
  rw [mS_dot (m := m) hp m (Nat.le_refl _), turnL_nth ht]; rfl

set_option maxHeartbeats 16000000 in
set_option maxRecDepth 100000 in
theorem s_mtimes (p : Int) (a : Option Addr) (n ca : Nat) (ra : List (List Int)) (b : Option Addr) (m cb : Nat) (rb : List (List Int)) (k : Nat) (w : World) (hp1 : 3 ≤ p) (hp2 : p ≤ 1000) (hn : n ≤ 1048576) (hm0 : 0 < m) (hm : m ≤ 1048576) (hk : k ≤ 1048576) (hx : RdR w a n ra) (hga : ∀ i, i < n → Good p m (nthR ra i)) (hy : RdR w b m rb) (hgb : ∀ i, i < m → Good p k (nthR rb i)) :
    Calls Try.prog 93 #[.int .i64 p, .slice a n ca, .slice b m cb] w fun e w' => ∃ g rc, e = .returned (.slice (some ⟨g, 0, none⟩) n rc) ∧ OwnR w.heap.size w' (some ⟨g, 0, none⟩) n rc (mulL p ra rb n m k) ∧ Ext w w' := by
  have hpz : ¬ p = 0 := by omega
  have HX := Lib.hid hx
  have HY := Lib.hid hy
  have HGA := Lib.hid hga
  have HGB := Lib.hid hgb
  obtain ⟨b0, off0, a0, c0, rfl, hc0, _⟩ := hy.2 0 hm0
  rw [(hgb 0 hm0).1, Nat.add_zero] at hc0
  have HC0 := Lib.hid hc0
  clear hx hy hga hgb hc0
  go_enter Try.func93, Try.ntmps93
  go_wp2_with (fail)
  go_loopw [7, 8] (fun v i wr => ∃ (i0 g rc : Nat), i0 ≤ n ∧ i = .int .i64 i0 ∧ v = .slice (some ⟨g, 0, none⟩) i0 rc ∧ Hid (OwnR w.heap.size wr (some ⟨g, 0, none⟩) i0 rc (mulL p ra rb i0 m k)) ∧ Hid (Ext w wr)) (fun _ i _ => n - (intOf i).toNat)
  case atStart => exact ⟨0, _, _, Nat.zero_le _, rfl, rfl, Lib.hid (ownR_empty w), Lib.hid (ext_alloc _ _)⟩
  case round =>
    rename World => y1
    obtain ⟨i, g, rc, hi, rfl, rfl, HO, HE1⟩ := hrel
    by_cases hlt : i < n
    · go_wp2_with (fail)
      go_loopw [9, 10] (fun v t wr => ∃ (t0 g1 rc1 : Nat), t0 ≤ k ∧ t = .int .i64 t0 ∧ v = .slice (some ⟨g1, 0, none⟩) t0 rc1 ∧ Hid (OwnC y1.heap.size wr (some ⟨g1, 0, none⟩) t0 rc1 (appL p (turnL rb m k) (nthR ra i) m t0)) ∧ Hid (Ext y1 wr)) (fun _ t _ => k - (intOf t).toNat)
      case atStart => exact ⟨0, _, _, Nat.zero_le _, rfl, rfl, Lib.hid (own_empty y1), Lib.hid (ext_alloc _ _)⟩
      case round =>
        rename World => y2
        obtain ⟨t, g1, rc1, ht, rfl, rfl, HR, HE2⟩ := hrel
        have hcz := (HE1.out.trans HE2.out).cell HC0.out
        by_cases hlt2 : t < k
        · go_wp2_with (fail)
          clear hcz
          go_loopw [11, 12] (fun s j wr => ∃ (j0 : Nat), j0 ≤ m ∧ j = .int .i64 j0 ∧ s = .int .i64 (mS p (nthR ra i) rb t j0) ∧ Hid (Ext y2 wr)) (fun _ j _ => m - (intOf j).toNat)
          case atStart => exact ⟨0, Nat.zero_le _, rfl, rfl, Lib.hid (Ext.refl _)⟩
          case round =>
            rename World => y3
            obtain ⟨j, hj, rfl, rfl, HE3⟩ := hrel
            by_cases hlt3 : j < m
            · obtain ⟨ba, oa, ai, ci, rfl, hc1, hr1⟩ := HX.out.2 i hlt
              rw [(HGA.out i hlt).1] at hc1 hr1
              obtain ⟨bi, oi, rfl, hv1⟩ := hr1.2 j hlt3
              obtain ⟨bb, ob, bj, dj, hbb, hc2, hr2⟩ := HY.out.2 j hlt3
              cases hbb
              rw [(HGB.out j hlt3).1] at hc2 hr2
              obtain ⟨bk, ok, rfl, hv2⟩ := hr2.2 t hlt2
              have EX := Lib.hid (((HE1.out.trans HE2.out).trans HE3.out).trans (ext_drew y3))
              have HCa := Lib.hid (EX.out.cell hc1)
              have HCb := Lib.hid (EX.out.cell hc2)
              obtain ⟨va, hva⟩ : ∃ x, x = nth (nthR ra i) j := ⟨_, rfl⟩
              obtain ⟨vb, hvb⟩ : ∃ x, x = nth (nthR rb j) t := ⟨_, rfl⟩
              obtain ⟨sm, hsm⟩ : ∃ x, x = mS p (nthR ra i) rb t j := ⟨_, rfl⟩
              have hba : 0 ≤ va ∧ va < p := by rw [hva]; exact (HGA.out i hlt).2 j hlt3
              have hbb : 0 ≤ vb ∧ vb < p := by rw [hvb]; exact (HGB.out j hlt3).2 t hlt2
              have hbs : 0 ≤ sm ∧ sm < p := by rw [hsm]; exact mS_bd (by omega) j
              have hmm := mul_bd (x := va) (y := vb) (p := p) (by omega) hba.1 hba.2 hbb.1 hbb.2
              obtain ⟨pr, hpr⟩ : ∃ x, x = va * vb := ⟨_, rfl⟩
              rw [← hpr] at hmm
              obtain ⟨sp, hsp⟩ : ∃ x, x = sm + pr := ⟨_, rfl⟩
              obtain ⟨sr, hsr⟩ : ∃ x, x = sp % p := ⟨_, rfl⟩
              have HMul := Lib.hid (show IntKind.i64.wrap (va * vb) = pr by rw [← hpr]; exact IntWalk.i64_in _ (by omega))
              have HAdd := Lib.hid (show IntKind.i64.wrap (sm + pr) = sp by rw [hsp]; exact IntWalk.i64_in _ (by omega))
              have HRem := Lib.hid (show sp.tmod p = sr by rw [hsr]; exact Int.tmod_eq_emod_of_nonneg (by omega))
              have HVa := Lib.hid (EX.out.cell hv1)
              have HVb := Lib.hid (EX.out.cell hv2)
              rw [← hva] at HVa
              rw [← hvb] at HVb
              have HSR := Lib.hid (show sr = mS p (nthR ra i) rb t (j + 1) by rw [hsr, hsp, hpr, hsm, hva, hvb]; rfl)
              rw [← hsm]
              clear hc1 hr1 hv1 hc2 hr2 hv2 hva hvb hsm hpr hsp hsr
              go_wp2_with (fail)
              refine wp_region_lex [] (by kernel_rfl) (by kernel_rfl) ?_
              (refine LexW.pure (v := ?_) rfl rfl (fun w1 he => ?_) ?_; rotate_left; ( have e1 := he.cell HCa.out; have e2 := he.cell HCb.out; have e3 := he.cell HVa.out; have e4 := he.cell HVb.out; have e5 := HMul.out; have e6 := HAdd.out; have e7 := HRem.out; go_simp; rfl); simp only [Act.put, List.setIfInBounds_toArray, List.set_cons_zero, List.set_cons_succ])
              (refine LexW.pure (v := ?_) rfl rfl (fun w1 he => ?_) ?_; rotate_left; ( have e1 := he.cell HCa.out; have e2 := he.cell HCb.out; have e3 := he.cell HVa.out; have e4 := he.cell HVb.out; have e5 := HMul.out; have e6 := HAdd.out; have e7 := HRem.out; go_simp; rfl); simp only [Act.put, List.setIfInBounds_toArray, List.set_cons_zero, List.set_cons_succ])
              (refine LexW.pure (v := ?_) rfl rfl (fun w1 he => ?_) ?_; rotate_left; ( have e1 := he.cell HCa.out; have e2 := he.cell HCb.out; have e3 := he.cell HVa.out; have e4 := he.cell HVb.out; have e5 := HMul.out; have e6 := HAdd.out; have e7 := HRem.out; go_simp; rfl); simp only [Act.put, List.setIfInBounds_toArray, List.set_cons_zero, List.set_cons_succ])
              (refine LexW.pure (v := ?_) rfl rfl (fun w1 he => ?_) ?_; rotate_left; ( have e1 := he.cell HCa.out; have e2 := he.cell HCb.out; have e3 := he.cell HVa.out; have e4 := he.cell HVb.out; have e5 := HMul.out; have e6 := HAdd.out; have e7 := HRem.out; go_simp; rfl); simp only [Act.put, List.setIfInBounds_toArray, List.set_cons_zero, List.set_cons_succ])
              (refine LexW.pure (v := ?_) rfl rfl (fun w1 he => ?_) ?_; rotate_left; ( have e1 := he.cell HCa.out; have e2 := he.cell HCb.out; have e3 := he.cell HVa.out; have e4 := he.cell HVb.out; have e5 := HMul.out; have e6 := HAdd.out; have e7 := HRem.out; go_simp; rfl); simp only [Act.put, List.setIfInBounds_toArray, List.set_cons_zero, List.set_cons_succ])
              (refine LexW.pure (v := ?_) rfl rfl (fun w1 he => ?_) ?_; rotate_left; ( have e1 := he.cell HCa.out; have e2 := he.cell HCb.out; have e3 := he.cell HVa.out; have e4 := he.cell HVb.out; have e5 := HMul.out; have e6 := HAdd.out; have e7 := HRem.out; go_simp; rfl); simp only [Act.put, List.setIfInBounds_toArray, List.set_cons_zero, List.set_cons_succ])
              (refine LexW.pure (v := ?_) rfl rfl (fun w1 he => ?_) ?_; rotate_left; ( have e1 := he.cell HCa.out; have e2 := he.cell HCb.out; have e3 := he.cell HVa.out; have e4 := he.cell HVb.out; have e5 := HMul.out; have e6 := HAdd.out; have e7 := HRem.out; go_simp; rfl); simp only [Act.put, List.setIfInBounds_toArray, List.set_cons_zero, List.set_cons_succ])
              (refine LexW.pure (v := ?_) rfl rfl (fun w1 he => ?_) ?_; rotate_left; ( have e1 := he.cell HCa.out; have e2 := he.cell HCb.out; have e3 := he.cell HVa.out; have e4 := he.cell HVb.out; have e5 := HMul.out; have e6 := HAdd.out; have e7 := HRem.out; go_simp; rfl); simp only [Act.put, List.setIfInBounds_toArray, List.set_cons_zero, List.set_cons_succ])
              (refine LexW.pure (v := ?_) rfl rfl (fun w1 he => ?_) ?_; rotate_left; ( have e1 := he.cell HCa.out; have e2 := he.cell HCb.out; have e3 := he.cell HVa.out; have e4 := he.cell HVb.out; have e5 := HMul.out; have e6 := HAdd.out; have e7 := HRem.out; go_simp; rfl); simp only [Act.put, List.setIfInBounds_toArray, List.set_cons_zero, List.set_cons_succ])
              (refine LexW.pure (v := ?_) rfl rfl (fun w1 he => ?_) ?_; rotate_left; ( have e1 := he.cell HCa.out; have e2 := he.cell HCb.out; have e3 := he.cell HVa.out; have e4 := he.cell HVb.out; have e5 := HMul.out; have e6 := HAdd.out; have e7 := HRem.out; go_simp; rfl); simp only [Act.put, List.setIfInBounds_toArray, List.set_cons_zero, List.set_cons_succ])
              (refine LexW.pure (v := ?_) rfl rfl (fun w1 he => ?_) ?_; rotate_left; ( have e1 := he.cell HCa.out; have e2 := he.cell HCb.out; have e3 := he.cell HVa.out; have e4 := he.cell HVb.out; have e5 := HMul.out; have e6 := HAdd.out; have e7 := HRem.out; go_simp; rfl); simp only [Act.put, List.setIfInBounds_toArray, List.set_cons_zero, List.set_cons_succ])
              (refine LexW.pure (v := ?_) rfl rfl (fun w1 he => ?_) ?_; rotate_left; ( have e1 := he.cell HCa.out; have e2 := he.cell HCb.out; have e3 := he.cell HVa.out; have e4 := he.cell HVb.out; have e5 := HMul.out; have e6 := HAdd.out; have e7 := HRem.out; go_simp; rfl); simp only [Act.put, List.setIfInBounds_toArray, List.set_cons_zero, List.set_cons_succ])
              (refine LexW.pure (v := ?_) rfl rfl (fun w1 he => ?_) ?_; rotate_left; ( have e1 := he.cell HCa.out; have e2 := he.cell HCb.out; have e3 := he.cell HVa.out; have e4 := he.cell HVb.out; have e5 := HMul.out; have e6 := HAdd.out; have e7 := HRem.out; go_simp; rfl); simp only [Act.put, List.setIfInBounds_toArray, List.set_cons_zero, List.set_cons_succ])
              (refine LexW.pure (v := ?_) rfl rfl (fun w1 he => ?_) ?_; rotate_left; ( have e1 := he.cell HCa.out; have e2 := he.cell HCb.out; have e3 := he.cell HVa.out; have e4 := he.cell HVb.out; have e5 := HMul.out; have e6 := HAdd.out; have e7 := HRem.out; go_simp; rfl); simp only [Act.put, List.setIfInBounds_toArray, List.set_cons_zero, List.set_cons_succ])
              (refine LexW.pure (v := ?_) rfl rfl (fun w1 he => ?_) ?_; rotate_left; ( have e1 := he.cell HCa.out; have e2 := he.cell HCb.out; have e3 := he.cell HVa.out; have e4 := he.cell HVb.out; have e5 := HMul.out; have e6 := HAdd.out; have e7 := HRem.out; go_simp; rfl); simp only [Act.put, List.setIfInBounds_toArray, List.set_cons_zero, List.set_cons_succ])
              (refine LexW.pure (v := ?_) rfl rfl (fun w1 he => ?_) ?_; rotate_left; ( have e1 := he.cell HCa.out; have e2 := he.cell HCb.out; have e3 := he.cell HVa.out; have e4 := he.cell HVb.out; have e5 := HMul.out; have e6 := HAdd.out; have e7 := HRem.out; go_simp; rfl); simp only [Act.put, List.setIfInBounds_toArray, List.set_cons_zero, List.set_cons_succ])
              (refine LexW.pure (v := ?_) rfl rfl (fun w1 he => ?_) ?_; rotate_left; ( have e1 := he.cell HCa.out; have e2 := he.cell HCb.out; have e3 := he.cell HVa.out; have e4 := he.cell HVb.out; have e5 := HMul.out; have e6 := HAdd.out; have e7 := HRem.out; go_simp; rfl); simp only [Act.put, List.setIfInBounds_toArray, List.set_cons_zero, List.set_cons_succ])
              (refine LexW.pure (v := ?_) rfl rfl (fun w1 he => ?_) ?_; rotate_left; ( have e1 := he.cell HCa.out; have e2 := he.cell HCb.out; have e3 := he.cell HVa.out; have e4 := he.cell HVb.out; have e5 := HMul.out; have e6 := HAdd.out; have e7 := HRem.out; go_simp; rfl); simp only [Act.put, List.setIfInBounds_toArray, List.set_cons_zero, List.set_cons_succ])
              (refine LexW.pure (v := ?_) rfl rfl (fun w1 he => ?_) ?_; rotate_left; ( have e1 := he.cell HCa.out; have e2 := he.cell HCb.out; have e3 := he.cell HVa.out; have e4 := he.cell HVb.out; have e5 := HMul.out; have e6 := HAdd.out; have e7 := HRem.out; go_simp; rfl); simp only [Act.put, List.setIfInBounds_toArray, List.set_cons_zero, List.set_cons_succ])
              (refine LexW.pure (v := ?_) rfl rfl (fun w1 he => ?_) ?_; rotate_left; ( have e1 := he.cell HCa.out; have e2 := he.cell HCb.out; have e3 := he.cell HVa.out; have e4 := he.cell HVb.out; have e5 := HMul.out; have e6 := HAdd.out; have e7 := HRem.out; go_simp; rfl); simp only [Act.put, List.setIfInBounds_toArray, List.set_cons_zero, List.set_cons_succ])
              refine LexW.nil (fun w3 he hkn => ?_)
              have HE := Lib.hid ((ext_drew y3).trans he)
              clear he hkn 
              rename World => y4
              have HE4 := Lib.hid (HE3.out.trans HE.out)
              rw [HSR.out]
              clear HE
              go_wp2_with (fail)
              go_roundw
              case rel => exact ⟨j + 1, by omega, by go_num, rfl, HE4⟩
              case measure => simp [intOf]; omega
            · obtain rfl : j = m := by omega
              have HDT := Lib.hid (mS_app (p := p) (x := nthR ra i) (b := rb) (m := j) (show 1 ≤ p by omega) hlt2)
              obtain ⟨sm, hsm⟩ : ∃ x, x = mS p (nthR ra i) rb t j := ⟨_, rfl⟩
              have HSM := Lib.hid hsm
              rw [← hsm]
              clear hsm
              have HR3 := Lib.hid (HR.out.ext HE3.out)
              go_wp2_with (at_builtin; refine wpList_push rfl (.tmp 54) (.tmp 56) rfl rfl rfl (v := sm) (HR3.out.ext (ext_alloc _ _)) ?hc (by omega) ?hB ?hk)
              case hc => simp
              case hB => have hz := (HE2.out.trans HE3.out).size'; simp; omega
              case hk =>
                intro g' cap' w3 ho3 hg3 he3
                have HO3 := Lib.hid ho3
                have HE5 := Lib.hid (he3 y1 (Nat.le_refl _) ((HE2.out.trans HE3.out).alloc _))
                clear ho3 hg3 he3
                go_wp2_with (fail)
                go_roundw
                case rel => exact ⟨t + 1, g', cap', by omega, by go_num, rfl, Lib.hid (by rw [appL_succ, ← HDT.out, ← HSM.out]; exact HO3.out), HE5⟩
                case measure => simp [intOf]; omega
        · obtain rfl : t = k := by omega
          go_wp2_with (at_builtin; refine wpList_pushR (w0 := y1) rfl (.tmp 58) (.tmp 60) rfl rfl rfl HO.out (HE2.out.trans (ext_alloc _ _)) (HR.out.ext (ext_alloc _ _)) ?hc (by omega) HE1.out.size ?hk)
          case hc => simp
          case hk =>
            intro g' cap' w3 ho3 hg3 he3
            have HO3 := Lib.hid ho3
            have HE3 := Lib.hid (he3 w (Nat.le_refl _) ((HE1.out.trans HE2.out).alloc _))
            clear ho3 hg3 he3
            go_wp2_with (fail)
            go_roundw
            case rel => exact ⟨i + 1, g', cap', by omega, by go_num, rfl, Lib.hid (by rw [mulL_succ]; exact HO3.out), HE3⟩
            case measure => simp [intOf]; omega
    · obtain rfl : i = n := by omega
      go_wp2_with (fail)
      go_ret
      exact ⟨g, rc, rfl, HO.out, HE1.out⟩
end Go.Proofs.Ytnabpmafcflljaa

/-
  The decomposition of an isometry into reflections, in the program and in the reference.
  No condition.
-/
namespace Go.Proofs.Ytnabpmafcflljaa
set_option maxRecDepth 100000
open Go.RowKit

set_option maxHeartbeats 16000000 in
set_option maxRecDepth 100000 in
theorem c_decomposition (p : Int) (a : Option Addr) (d cap : Nat) (qs : List Int) (ax1 : Option Addr) (cx1 : Nat) (xs1 : List (List Int)) (w : World) (hpr : primeB p = true) (hd0 : 0 < d) (hd : d ≤ 6) (hq : RdC w a d qs) (hqb : isB p qs = true) (hqn : ∀ i, i < d → nth qs i % p ≠ 0) (hx1 : RdR w ax1 d xs1) (hg : RowsG p d xs1) (hiso : isoM p qs xs1 d) :
    Calls Try.prog 61 #[.agg #[.int .i64 p, .slice a d cap], .slice ax1 d cx1] w fun e w' => ∃ ra n rc, e = .returned (.slice ra n rc) ∧ n ≤ 12 ∧ RdR w' ra n (decL p qs xs1 d) ∧ Ext w w' := by
  have hpb := prime_bd hpr
  have hp1 : 3 ≤ p := hpb.1
  have HGQ := Lib.hid (good_isB hq.1 hqb)
  have HQN := Lib.hid hqn
  have HOK : Hid (∀ i, i ≤ d → decOk p qs d i (decT p qs xs1 d i)) := Lib.hid (decT_ok hpr (fun i hi => ⟨hqn i hi, HGQ.out.2 i hi⟩) hg hx1.1 hiso)
  have HX := Lib.hid hx1
  have HPR := Lib.hid hpr
  have HQ := Lib.hid hq
  have HQB := Lib.hid hqb
  clear hq hqb hqn hx1 hg hiso hpr
  obtain ⟨W, hW⟩ : ∃ W, W = w.alloc (.cells #[.int .i64 p, .slice a d cap] 30) := ⟨_, rfl⟩
  have gW : Ext w W := by rw [hW]; exact ext_alloc _ _
  have hs0 : W.cell? ⟨w.heap.size, 0, none⟩ = some (.int .i64 p) := by rw [hW]; simp
  have hs1 : W.cell? ⟨w.heap.size, 1, none⟩ = some (.slice a d cap) := by rw [hW]; simp
  have HS0 := Lib.hid (hs0)
  have HS1 := Lib.hid (hs1)
  have GW := Lib.hid (gW)
  have HW := Lib.hid hW
  clear hs0 hs1 gW hW
  go_enter Try.func61, Try.ntmps61
  go_wp2_with (fail)
  rw [← HW.out]
  have hs0 := (ext_alloc W (.cells #[] 22)).cell HS0.out
  have hs1 := (ext_alloc W (.cells #[] 22)).cell HS1.out
  go_wp2_with (fail)
  refine (c_dim _ _ _ _ _).mono ?_
  rintro e w0 ⟨rfl, h0⟩
  go_wp2_with (fail)
  refine (c_unit d _ (by omega)).mono ?_
  rintro e W1 ⟨gu, ru, rfl, hu, h1⟩
  have HU := Lib.hid hu
  have G1 := Lib.hid (((ext_alloc W (.cells #[] 22)).trans h0).trans h1)
  have hz1 : W.heap.size < W1.heap.size := by have h3 := (h0.trans h1).size; simp at h3; omega
  have HS0b := Lib.hid (G1.out.cell HS0.out)
  have HS1b := Lib.hid (G1.out.cell HS1.out)
  clear hu h0 h1 hs0 hs1
  go_wp2_with (fail)
  go_loopw [1, 5, 16] (fun m o i wr => ∃ (k n g rc : Nat) (am : Option Addr) (cm : Nat), k ≤ d ∧ i = .int .i64 k ∧ o = .slice (some ⟨g, 0, none⟩) n rc ∧ m = .slice am d cm ∧ Hid (OwnX W1.heap.size wr (some ⟨g, 0, none⟩) n rc (decT p qs xs1 d k).1) ∧ Hid (MatX W1 wr g am d cm (decT p qs xs1 d k).2) ∧ Hid (Ext W1 wr)) (fun _ _ i _ => d - (intOf i).toNat)
  case atStart => exact ⟨0, 0, _, 0, ax1, cx1, Nat.zero_le _, rfl, rfl, rfl, Lib.hid (.inl ⟨rfl, rfl, rfl, _, rfl, (by have h := hz1; rw [HW.out] at h; simpa using h)⟩), Lib.hid (.inl (HX.out.ext (GW.out.trans G1.out))), Lib.hid (Ext.refl _)⟩
  case round =>
    obtain ⟨k, n, g, rc, am, cm, hk, rfl, rfl, rfl, HO, HM, HE⟩ := hrel
    by_cases hlt : k < d
    · have HOKk := Lib.hid (HOK.out k hk)
      have HSK : Hid (decT p qs xs1 d (k + 1) = decS p qs d k (decT p qs xs1 d k)) := Lib.hid rfl
      have HFACT := Lib.hid (decS_ok HPR.out (HQN.out k hlt) (HGQ.out.2 k hlt) hlt HOKk.out).2
      have HON := Lib.hid (HOK.out (k + 1) (by omega))
      obtain ⟨St, hSt⟩ : ∃ s, s = decT p qs xs1 d k := ⟨_, rfl⟩
      rw [← hSt] at HO HM HOKk HSK HFACT
      obtain ⟨O, hO⟩ : ∃ s, s = St.1 := ⟨_, rfl⟩
      obtain ⟨R, hR⟩ : ∃ s, s = St.2 := ⟨_, rfl⟩
      rw [← hO] at HO
      rw [← hR] at HM
      have HEqO := Lib.hid hO
      have HEqR := Lib.hid hR
      have HRG : Hid (RowsG p d R ∧ R.length = d) := Lib.hid (by rw [hR]; exact ⟨HOKk.out.2.2.1, HOKk.out.2.2.2.1⟩)
      have HNL : Hid (n ≤ 12) := Lib.hid (by have h1 := HOKk.out.2.1; have h2 := HO.out.rd.1; rw [← hO] at h1; omega)
      have HB := Lib.hid (show Good p d (bladeL d k) from blade_good hp1)
      have HGC := Lib.hid (col_good HRG.out.1 HRG.out.2 hlt)
      rw [← hR] at HFACT
      have HDS : Hid (decS p qs d k St = (if colL R k d = bladeL d k then St else if pairL p qs (lessV p R d k) (lessV p R d k) d ≠ 0 then (O ++ [lessV p R d k], mulL p (reflM p qs (lessV p R d k) d) R d d d) else (O ++ [moreV p R d k, bladeL d k], mulL p (reflM p qs (bladeL d k) d) (mulL p (reflM p qs (moreV p R d k) d) R d d d) d d d))) := Lib.hid (by rw [hO, hR]; rfl)
      clear hSt hO hR HOKk
      obtain ⟨L, hL⟩ : ∃ l, l = lessV p R d k := ⟨_, rfl⟩
      obtain ⟨Mo, hMo⟩ : ∃ l, l = moreV p R d k := ⟨_, rfl⟩
      have HGL : Hid (Good p d L) := Lib.hid (by rw [hL]; exact plus_good (by omega))
      have HGM : Hid (Good p d Mo) := Lib.hid (by rw [hMo]; exact plus_good (by omega))
      rw [← hL, ← hMo] at HFACT HDS
      have HL := Lib.hid hL
      have HMo := Lib.hid hMo
      clear hL hMo
      obtain ⟨ak, ck, hck, hok⟩ := HU.out.at hlt
      rw [unitL_nth hlt, bladeL_len] at hck hok
      have hck' := HE.out.cell hck
      have HEk := Lib.hid (hok.ext HE.out)
      clear hck hok
      go_wp2_with (fail)
      refine Calls.mono (c_transpose am d cm d R _ hd0 (by omega) (by omega) (fun i hi => (HRG.out.1 i (by rw [HRG.out.2]; exact hi)).1) (HM.out.rd HE.out)) ?_
      rintro e w3 ⟨gt, ct, rfl, ot, x3⟩
      obtain ⟨aw, cw, hcw, how⟩ := ot.at hlt
      rw [turnL_nth hlt, colL_len] at hcw how
      have HWk := Lib.hid how
      have X3 := Lib.hid x3
      have hs0 := x3.cell (HE.out.cell HS0b.out)
      have hs1 := x3.cell (HE.out.cell HS1b.out)
      clear ot how x3 hck'
      go_wp2_with (fail)
      refine Calls.mono (c_field p _ _) ?_
      rintro e w4 ⟨rfl, x4⟩
      have X4 := Lib.hid (X3.out.trans x4)
      have HW4 := Lib.hid (HWk.out.ext x4)
      replace hs0 := x4.cell hs0
      replace hs1 := x4.cell hs1
      clear x4 hcw
      go_wp2_with (fail)
      refine Calls.mono (c_plus p aw ak d cw ck (colL R k d) (bladeL d k) (-1) _ (by omega) (by omega) (by omega) (by omega) HW4.out.rd (HEk.out.rd.ext X4.out) HGC.out HB.out) ?_
      rintro e w6 ⟨gl, cl, rfl, ol, x6⟩
      have HLl : Hid (OwnC w4.heap.size w6 (some ⟨gl, 0, none⟩) d cl L) := Lib.hid (by rw [HL.out]; exact ol)
      have X6 := Lib.hid (X4.out.trans x6)
      have HW6 := Lib.hid (HW4.out.ext x6)
      replace hs0 := x6.cell hs0
      replace hs1 := x6.cell hs1
      clear ol x6
      go_wp2_with (fail)
      refine Calls.mono (c_isZero _ d cl L _ (by omega) HLl.out.rd) ?_
      rintro e w7 ⟨rfl, x7⟩
      have HLl7 := Lib.hid (HLl.out.ext x7)
      have X7 := Lib.hid (X6.out.trans x7)
      have HW7 := Lib.hid (HW6.out.ext x7)
      replace hs0 := x7.cell hs0
      replace hs1 := x7.cell hs1
      clear x7
      have HZB : Hid (zeroB L = eqB (colL R k d) (bladeL d k)) := Lib.hid (by rw [HL.out]; exact zero_minus (by omega) HGC.out HB.out)
      by_cases hzb : colL R k d = bladeL d k
      · have hzt : zeroB L = true := by rw [HZB.out, hzb, eqB_self]
        have HZ := Lib.hid hzb
        clear hzb
        go_wp2_with (fail)
        go_roundw
        case rel => exact ⟨k + 1, _, _, _, _, _, by omega, by go_num, rfl, rfl, Lib.hid (by rw [HSK.out, HDS.out, if_pos HZ.out, ← HEqO.out]; exact HO.out.ext X7.out), Lib.hid (by rw [HSK.out, HDS.out, if_pos HZ.out, ← HEqR.out]; exact HM.out.ext X7.out), Lib.hid (HE.out.trans X7.out)⟩
        case measure => simp [intOf]; omega
      have hzf : zeroB L = false := by rw [HZB.out, eqB]; simpa using hzb
      have HNB := Lib.hid hzb
      clear hzb
      go_wp2_with (fail)
      refine Calls.mono (c_norm p a d cap qs _ cl L _ (by omega) (by omega) hd (HQ.out.ext ((GW.out.trans (G1.out.trans HE.out)).trans X7.out)) HQB.out HLl7.out.rd HGL.out) ?_
      rintro e w8 ⟨rfl, x8⟩
      have HLl8 := Lib.hid (HLl7.out.ext x8)
      have X8 := Lib.hid (X7.out.trans x8)
      have HW8 := Lib.hid (HW7.out.ext x8)
      replace hs0 := x8.cell hs0
      replace hs1 := x8.cell hs1
      clear x8 hzf
      obtain ⟨pv, hpv⟩ : ∃ x, x = pairL p qs L L d := ⟨_, rfl⟩
      rw [← hpv] at HFACT HDS ⊢
      clear hpv
      have HFB := Lib.hid HFACT.out.2
      by_cases hnz : pv ≠ 0
      · have hpb : (pv != 0) = true := by simp [hnz]
        have HNZ := Lib.hid hnz
        clear hnz
        go_wp2_with (at_builtin; refine wpList_appendX rfl (.tmp 62) (.tmp 64) rfl (B := W1.heap.size) (rows := O) (rows2 := [L]) (us := [.slice (some ⟨gl, 0, none⟩) d cl]) (m := 1) rfl rfl ((HO.out.ext X8.out).ext (ext_alloc _ _)) rfl rfl ?hc ?hx (by omega) (by have := HNL.out; omega) (by omega) ?hb ?hk)
        case hc =>
          intro j u hj
          match j, hj with
          | 0, hj => simp only [List.getElem?_cons_zero, Option.some.injEq] at hj; subst hj; simp
        case hx =>
          intro i hi
          obtain rfl : i = 0 := by omega
          refine ⟨(some ⟨gl, 0, none⟩), cl, ?_, ?_⟩
          · show _ = some (Value.slice _ (L).length _)
            rw [HGL.out.1]; rfl
          · show OwnC 0 _ _ (L).length _ (L)
            rw [HGL.out.1]
            exact (HLl8.out.ext (ext_alloc _ _)).mono (Nat.zero_le _)
        case hb => exact Nat.le_trans HE.out.size (Nat.le_trans X8.out.size (ext_alloc _ _).size)
        case hk =>
          intro g5 c5 w5 row ho5 hgr hrow hnew he5
          have HE5 := Lib.hid (he5 W1 (Nat.le_refl _) ((HE.out.trans X8.out).alloc _))
          have HM5 := Lib.hid (((HM.out.ext X8.out).ext (ext_alloc _ (.cells #[.slice (some ⟨gl, 0, none⟩) d cl] 22))).app hgr hrow (by simpa using hnew))
          have HLl5 := Lib.hid ((HLl8.out.ext (ext_alloc _ (.cells #[.slice (some ⟨gl, 0, none⟩) d cl] 22))).grown hgr (fun q hq => by rcases hrow with e | ⟨hv, e⟩; (rw [e]; exact fun h => by cases h); (obtain ⟨_, vs, h3, _⟩ := hv; rw [e]; exact own_apart h3 (HLl8.out.ext (ext_alloc _ (.cells #[.slice (some ⟨gl, 0, none⟩) d cl] 22))) q hq)))
          have HO5 := Lib.hid ho5
          have hg5 : g5 < w5.heap.size := by obtain ⟨_, vs, h3, _⟩ := ho5; exact (h3.lt g5 rfl).2
          clear ho5 hgr hrow hnew he5 HO HM
          have hs05 := HE5.out.cell HS0b.out
          have hs15 := HE5.out.cell HS1b.out
          go_wp2_with (fail)
          have HT0 := Lib.hid ((ext_drew _).cell hs05)
          have HT1 := Lib.hid ((ext_drew _).cell hs15)
          have GX := Lib.hid ((GW.out.trans (G1.out.trans HE5.out)).trans (ext_drew _))
          have HMR := Lib.hid ((HM5.out.rd HE5.out).ext (ext_drew _))
          have HWE := Lib.hid (ext_drew w5)
          clear hs05 hs15
          refine wp_region_lex [(1, .val (.int .i64 p)), (4, .ownR w5.heap.size d (reflM p qs L d)), (6, .ownR w5.heap.size d (mulL p (reflM p qs L d) R d d d))] (by kernel_rfl) (by kernel_rfl) ?_
          (refine LexW.pure (v := ?_) rfl rfl (fun w1 he => ?_) ?_; rotate_left; ( have e1 := he.cell HT0.out; have e2 := he.cell HT1.out; go_simp; rfl); simp only [Act.put, List.setIfInBounds_toArray, List.set_cons_zero, List.set_cons_succ])
          (refine LexW.call (f := ?_) (args := ?_) rfl rfl (fun w1 => ?_) (fun w1 he hdep => ?_) ?_; rotate_left 2; (go_simp; refine ⟨?_, ?_⟩ <;> rfl); ( exact c_field p _ w1); simp only [Act.put, List.setIfInBounds_toArray, List.set_cons_zero, List.set_cons_succ])
          (refine LexW.pure (v := ?_) rfl rfl (fun w1 he => ?_) ?_; rotate_left; ( have e1 := he.cell HT0.out; have e2 := he.cell HT1.out; go_simp; rfl); simp only [Act.put, List.setIfInBounds_toArray, List.set_cons_zero, List.set_cons_succ])
          (refine LexW.pure (v := ?_) rfl rfl (fun w1 he => ?_) ?_; rotate_left; ( have e1 := he.cell HT0.out; have e2 := he.cell HT1.out; go_simp; rfl); simp only [Act.put, List.setIfInBounds_toArray, List.set_cons_zero, List.set_cons_succ])
          (refine LexW.callR (f := ?_) (args := ?_) rfl rfl (fun w1 => ?_) (fun w1 he hdep => ?_) (fun v hv => ?_); rotate_left 2; (go_simp; refine ⟨?_, ?_⟩ <;> rfl); ( refine (c_reflection p a d cap qs (some ⟨gl, 0, none⟩) cl L w1 (by omega) (by omega) hd0 hd (HQ.out.ext (GX.out.trans he)) HQB.out ((HLl5.out.rd.ext HWE.out).ext he) HGL.out).mono ?_; rintro e w2 ⟨g, rc, rfl, ho, g2⟩; exact ⟨_, rfl, g2, g, rc, rfl, ho.mono (Nat.le_trans (ext_drew _).size he.size)⟩); simp only [Act.put, List.setIfInBounds_toArray, List.set_cons_zero, List.set_cons_succ])
          obtain ⟨_, g70, c70, rfl, _⟩ := hv
          (refine LexW.pure (v := ?_) rfl rfl (fun w1 he => ?_) ?_; rotate_left; ( have e1 := he.cell HT0.out; have e2 := he.cell HT1.out; go_simp; rfl); simp only [Act.put, List.setIfInBounds_toArray, List.set_cons_zero, List.set_cons_succ])
          (refine LexW.callR (f := ?_) (args := ?_) rfl rfl (fun w1 => ?_) (fun w1 he hdep => ?_) (fun v hv => ?_); rotate_left 2; (go_simp; refine ⟨?_, ?_⟩ <;> rfl); ( obtain ⟨_, _, q70, r70⟩ : (SPred.ownR w5.heap.size d (reflM p qs L d)).holds (.slice (some ⟨g70, 0, none⟩) d c70) w1 := hdep (4, 70) (by decide +kernel); cases q70; refine ((Calls.mono (c_mtimes p (some ⟨g70, 0, none⟩) d c70 (reflM p qs L d) am d cm R d w1 (by omega) (by omega) (by omega) hd0 (by omega) (by omega) r70.rd (fun i hi => reflM_good (by omega) i (by rw [reflM_len]; exact hi)) (HMR.out.ext he) (fun i hi => HRG.out.1 i (by rw [HRG.out.2]; exact hi))) (by rintro e w2 ⟨g, rc, h1, h2, h3⟩; exact ⟨g, rc, h1, h2 hd0, h3⟩) : Calls Try.prog _ _ _ fun e w2 => ∃ g rc, e = .returned (.slice (some ⟨g, 0, none⟩) d rc) ∧ OwnR w1.heap.size w2 (some ⟨g, 0, none⟩) d rc (mulL p (reflM p qs L d) R d d d) ∧ Ext w1 w2)).mono ?_; rintro e w2 ⟨g, rc, rfl, ho, g2⟩; exact ⟨_, rfl, g2, g, rc, rfl, ho.mono (Nat.le_trans (ext_drew _).size he.size)⟩); simp only [Act.put, List.setIfInBounds_toArray, List.set_cons_zero, List.set_cons_succ])
          obtain ⟨_, g72, c72, rfl, _⟩ := hv
          (refine LexW.pure (v := ?_) rfl rfl (fun w1 he => ?_) ?_; rotate_left; ( have e1 := he.cell HT0.out; have e2 := he.cell HT1.out; go_simp; rfl); simp only [Act.put, List.setIfInBounds_toArray, List.set_cons_zero, List.set_cons_succ])
          refine LexW.nil (fun w3 he hkn => ?_)
          obtain ⟨_, _, q72, r72⟩ : (SPred.ownR w5.heap.size d (mulL p (reflM p qs L d) R d d d)).holds (.slice (some ⟨g72, 0, none⟩) d c72) w3 := hkn (6, _) (by simp)
          cases q72
          have R72 := Lib.hid r72
          have HX5 := Lib.hid (HWE.out.trans he)
          clear he hkn r72
          have hgm : g72 ≠ g5 := by have := (R72.out.base_of g72 rfl).1; omega
          have HM7 : Hid (MatX W1 _ g5 (some ⟨g72, 0, none⟩) d c72 _) := Lib.hid (.inr ⟨g72, rfl, hgm, R72.out.mono HE5.out.size⟩)
          have HE7 := Lib.hid (HE5.out.trans HX5.out)
          replace HO5 := Lib.hid (HO5.out.ext HX5.out)
          go_wp2_with (fail)
          go_roundw
          case rel => exact ⟨k + 1, _, _, _, _, _, by omega, by go_num, rfl, rfl, Lib.hid (by rw [HSK.out, HDS.out, if_neg HNB.out, if_pos HNZ.out]; exact .inr HO5.out), Lib.hid (by rw [HSK.out, HDS.out, if_neg HNB.out, if_pos HNZ.out]; exact HM7.out), HE7⟩
          case measure => simp [intOf]; omega
      · have hpb : (pv != 0) = false := by simpa using hnz
        have HFM := Lib.hid (HFACT.out.1 HNB.out (Classical.not_not.1 hnz))
        have HNZ := Lib.hid hnz
        clear hnz
        go_wp2_with (fail)
        refine Calls.mono (c_field p _ _) ?_
        rintro e w9 ⟨rfl, x9⟩
        have X9 := Lib.hid (X8.out.trans x9)
        have HW9 := Lib.hid (HW8.out.ext x9)
        replace hs0 := x9.cell hs0
        replace hs1 := x9.cell hs1
        clear x9
        go_wp2_with (fail)
        refine Calls.mono (c_plus p aw ak d cw ck (colL R k d) (bladeL d k) 1 _ (by omega) (by omega) (by omega) (by omega) HW9.out.rd (HEk.out.rd.ext X9.out) HGC.out HB.out) ?_
        rintro e w10 ⟨gq, cq, rfl, oq, x10⟩
        have HMo10 : Hid (OwnC w9.heap.size w10 (some ⟨gq, 0, none⟩) d cq Mo) := Lib.hid (by rw [HMo.out]; exact oq)
        have X10 := Lib.hid (X9.out.trans x10)
        have HE10 := Lib.hid (HEk.out.ext X10.out)
        replace hs0 := x10.cell hs0
        replace hs1 := x10.cell hs1
        clear oq x10
        go_wp2_with (at_builtin; refine wpList_appendX rfl (.tmp 36) (.tmp 39) rfl (B := W1.heap.size) (rows := O) (rows2 := [Mo, (bladeL d k)]) (us := [.slice (some ⟨gq, 0, none⟩) d cq, .slice ak d ck]) (m := 2) rfl rfl ((HO.out.ext X10.out).ext (ext_alloc _ _)) rfl rfl ?hc ?hx (by omega) (by have := HNL.out; omega) (by omega) ?hb ?hk)
        case hc =>
          intro j u hj
          match j, hj with
          | 0, hj => simp only [List.getElem?_cons_zero, Option.some.injEq] at hj; subst hj; simp
          | 1, hj => simp only [List.getElem?_cons_succ, List.getElem?_cons_zero, Option.some.injEq] at hj; subst hj; simp
        case hx =>
          intro i hi
          have hi2 : i = 0 ∨ i = 1 := by omega
          rcases hi2 with rfl | rfl
          · refine ⟨(some ⟨gq, 0, none⟩), cq, ?_, ?_⟩
            · show _ = some (Value.slice _ (Mo).length _)
              rw [HGM.out.1]; rfl
            · show OwnC 0 _ _ (Mo).length _ (Mo)
              rw [HGM.out.1]
              exact (HMo10.out.ext (ext_alloc _ _)).mono (Nat.zero_le _)
          · refine ⟨ak, ck, ?_, ?_⟩
            · show _ = some (Value.slice _ ((bladeL d k)).length _)
              rw [bladeL_len d k]; rfl
            · show OwnC 0 _ _ ((bladeL d k)).length _ ((bladeL d k))
              rw [bladeL_len d k]
              exact (HE10.out.ext (ext_alloc _ _)).mono (Nat.zero_le _)
        case hb => exact Nat.le_trans HE.out.size (Nat.le_trans X10.out.size (ext_alloc _ _).size)
        case hk =>
          intro g5 c5 w5 row ho5 hgr hrow hnew he5
          have HE5 := Lib.hid (he5 W1 (Nat.le_refl _) ((HE.out.trans X10.out).alloc _))
          have HM5 := Lib.hid (((HM.out.ext X10.out).ext (ext_alloc _ (.cells #[.slice (some ⟨gq, 0, none⟩) d cq, .slice ak d ck] 22))).app hgr hrow (by simpa using hnew))
          have HMo5 := Lib.hid ((HMo10.out.ext (ext_alloc _ (.cells #[.slice (some ⟨gq, 0, none⟩) d cq, .slice ak d ck] 22))).grown hgr (fun q hq => by rcases hrow with e | ⟨hv, e⟩; (rw [e]; exact fun h => by cases h); (obtain ⟨_, vs, h3, _⟩ := hv; rw [e]; exact own_apart h3 (HMo10.out.ext (ext_alloc _ (.cells #[.slice (some ⟨gq, 0, none⟩) d cq, .slice ak d ck] 22))) q hq)))
          have HE5b := Lib.hid ((HE10.out.ext (ext_alloc _ (.cells #[.slice (some ⟨gq, 0, none⟩) d cq, .slice ak d ck] 22))).grown hgr (fun q hq => by rcases hrow with e | ⟨hv, e⟩; (rw [e]; exact fun h => by cases h); (obtain ⟨_, vs, h3, _⟩ := hv; rw [e]; exact own_apart h3 (HE10.out.ext (ext_alloc _ (.cells #[.slice (some ⟨gq, 0, none⟩) d cq, .slice ak d ck] 22))) q hq)))
          have HO5 := Lib.hid ho5
          have hg5 : g5 < w5.heap.size := by obtain ⟨_, vs, h3, _⟩ := ho5; exact (h3.lt g5 rfl).2
          clear ho5 hgr hrow hnew he5 HO HM
          have hs05 := HE5.out.cell HS0b.out
          have hs15 := HE5.out.cell HS1b.out
          go_wp2_with (fail)
          have HT0 := Lib.hid ((ext_drew _).cell hs05)
          have HT1 := Lib.hid ((ext_drew _).cell hs15)
          have GX := Lib.hid ((GW.out.trans (G1.out.trans HE5.out)).trans (ext_drew _))
          have HMR := Lib.hid ((HM5.out.rd HE5.out).ext (ext_drew _))
          have HWE := Lib.hid (ext_drew w5)
          clear hs05 hs15
          refine wp_region_lex [(1, .val (.int .i64 p)), (4, .ownR w5.heap.size d (reflM p qs (bladeL d k) d)), (6, .val (.int .i64 p)), (9, .ownR w5.heap.size d (reflM p qs Mo d)), (11, .ownR w5.heap.size d (mulL p (reflM p qs Mo d) R d d d)), (12, .ownR w5.heap.size d (mulL p (reflM p qs (bladeL d k) d) (mulL p (reflM p qs Mo d) R d d d) d d d))] (by kernel_rfl) (by kernel_rfl) ?_
          (refine LexW.pure (v := ?_) rfl rfl (fun w1 he => ?_) ?_; rotate_left; ( have e1 := he.cell HT0.out; have e2 := he.cell HT1.out; go_simp; rfl); simp only [Act.put, List.setIfInBounds_toArray, List.set_cons_zero, List.set_cons_succ])
          (refine LexW.call (f := ?_) (args := ?_) rfl rfl (fun w1 => ?_) (fun w1 he hdep => ?_) ?_; rotate_left 2; (go_simp; refine ⟨?_, ?_⟩ <;> rfl); ( exact c_field p _ w1); simp only [Act.put, List.setIfInBounds_toArray, List.set_cons_zero, List.set_cons_succ])
          (refine LexW.pure (v := ?_) rfl rfl (fun w1 he => ?_) ?_; rotate_left; ( have e1 := he.cell HT0.out; have e2 := he.cell HT1.out; go_simp; rfl); simp only [Act.put, List.setIfInBounds_toArray, List.set_cons_zero, List.set_cons_succ])
          (refine LexW.pure (v := ?_) rfl rfl (fun w1 he => ?_) ?_; rotate_left; ( have e1 := he.cell HT0.out; have e2 := he.cell HT1.out; go_simp; rfl); simp only [Act.put, List.setIfInBounds_toArray, List.set_cons_zero, List.set_cons_succ])
          (refine LexW.callR (f := ?_) (args := ?_) rfl rfl (fun w1 => ?_) (fun w1 he hdep => ?_) (fun v hv => ?_); rotate_left 2; (go_simp; refine ⟨?_, ?_⟩ <;> rfl); ( refine (c_reflection p a d cap qs ak ck (bladeL d k) w1 (by omega) (by omega) hd0 hd (HQ.out.ext (GX.out.trans he)) HQB.out ((HE5b.out.rd.ext HWE.out).ext he) HB.out).mono ?_; rintro e w2 ⟨g, rc, rfl, ho, g2⟩; exact ⟨_, rfl, g2, g, rc, rfl, ho.mono (Nat.le_trans (ext_drew _).size he.size)⟩); simp only [Act.put, List.setIfInBounds_toArray, List.set_cons_zero, List.set_cons_succ])
          obtain ⟨_, g45, c45, rfl, _⟩ := hv
          (refine LexW.pure (v := ?_) rfl rfl (fun w1 he => ?_) ?_; rotate_left; ( have e1 := he.cell HT0.out; have e2 := he.cell HT1.out; go_simp; rfl); simp only [Act.put, List.setIfInBounds_toArray, List.set_cons_zero, List.set_cons_succ])
          (refine LexW.call (f := ?_) (args := ?_) rfl rfl (fun w1 => ?_) (fun w1 he hdep => ?_) ?_; rotate_left 2; (go_simp; refine ⟨?_, ?_⟩ <;> rfl); ( exact c_field p _ w1); simp only [Act.put, List.setIfInBounds_toArray, List.set_cons_zero, List.set_cons_succ])
          (refine LexW.pure (v := ?_) rfl rfl (fun w1 he => ?_) ?_; rotate_left; ( have e1 := he.cell HT0.out; have e2 := he.cell HT1.out; go_simp; rfl); simp only [Act.put, List.setIfInBounds_toArray, List.set_cons_zero, List.set_cons_succ])
          (refine LexW.pure (v := ?_) rfl rfl (fun w1 he => ?_) ?_; rotate_left; ( have e1 := he.cell HT0.out; have e2 := he.cell HT1.out; go_simp; rfl); simp only [Act.put, List.setIfInBounds_toArray, List.set_cons_zero, List.set_cons_succ])
          (refine LexW.callR (f := ?_) (args := ?_) rfl rfl (fun w1 => ?_) (fun w1 he hdep => ?_) (fun v hv => ?_); rotate_left 2; (go_simp; refine ⟨?_, ?_⟩ <;> rfl); ( refine (c_reflection p a d cap qs (some ⟨gq, 0, none⟩) cq Mo w1 (by omega) (by omega) hd0 hd (HQ.out.ext (GX.out.trans he)) HQB.out ((HMo5.out.rd.ext HWE.out).ext he) HGM.out).mono ?_; rintro e w2 ⟨g, rc, rfl, ho, g2⟩; exact ⟨_, rfl, g2, g, rc, rfl, ho.mono (Nat.le_trans (ext_drew _).size he.size)⟩); simp only [Act.put, List.setIfInBounds_toArray, List.set_cons_zero, List.set_cons_succ])
          obtain ⟨_, g50, c50, rfl, _⟩ := hv
          (refine LexW.pure (v := ?_) rfl rfl (fun w1 he => ?_) ?_; rotate_left; ( have e1 := he.cell HT0.out; have e2 := he.cell HT1.out; go_simp; rfl); simp only [Act.put, List.setIfInBounds_toArray, List.set_cons_zero, List.set_cons_succ])
          (refine LexW.callR (f := ?_) (args := ?_) rfl rfl (fun w1 => ?_) (fun w1 he hdep => ?_) (fun v hv => ?_); rotate_left 2; (go_simp; refine ⟨?_, ?_⟩ <;> rfl); ( obtain ⟨_, _, q50, r50⟩ : (SPred.ownR w5.heap.size d (reflM p qs Mo d)).holds (.slice (some ⟨g50, 0, none⟩) d c50) w1 := hdep (9, 50) (by decide +kernel); cases q50; refine ((Calls.mono (c_mtimes p (some ⟨g50, 0, none⟩) d c50 (reflM p qs Mo d) am d cm R d w1 (by omega) (by omega) (by omega) hd0 (by omega) (by omega) r50.rd (fun i hi => reflM_good (by omega) i (by rw [reflM_len]; exact hi)) (HMR.out.ext he) (fun i hi => HRG.out.1 i (by rw [HRG.out.2]; exact hi))) (by rintro e w2 ⟨g, rc, h1, h2, h3⟩; exact ⟨g, rc, h1, h2 hd0, h3⟩) : Calls Try.prog _ _ _ fun e w2 => ∃ g rc, e = .returned (.slice (some ⟨g, 0, none⟩) d rc) ∧ OwnR w1.heap.size w2 (some ⟨g, 0, none⟩) d rc (mulL p (reflM p qs Mo d) R d d d) ∧ Ext w1 w2)).mono ?_; rintro e w2 ⟨g, rc, rfl, ho, g2⟩; exact ⟨_, rfl, g2, g, rc, rfl, ho.mono (Nat.le_trans (ext_drew _).size he.size)⟩); simp only [Act.put, List.setIfInBounds_toArray, List.set_cons_zero, List.set_cons_succ])
          obtain ⟨_, g52, c52, rfl, _⟩ := hv
          (refine LexW.callR (f := ?_) (args := ?_) rfl rfl (fun w1 => ?_) (fun w1 he hdep => ?_) (fun v hv => ?_); rotate_left 2; (go_simp; refine ⟨?_, ?_⟩ <;> rfl); ( obtain ⟨_, _, q45, r45⟩ : (SPred.ownR w5.heap.size d (reflM p qs (bladeL d k) d)).holds (.slice (some ⟨g45, 0, none⟩) d c45) w1 := hdep (4, 45) (by decide +kernel); cases q45; obtain ⟨_, _, q52, r52⟩ : (SPred.ownR w5.heap.size d (mulL p (reflM p qs Mo d) R d d d)).holds (.slice (some ⟨g52, 0, none⟩) d c52) w1 := hdep (11, 52) (by decide +kernel); cases q52; refine ((Calls.mono (c_mtimes p (some ⟨g45, 0, none⟩) d c45 (reflM p qs (bladeL d k) d) (some ⟨g52, 0, none⟩) d c52 (mulL p (reflM p qs Mo d) R d d d) d w1 (by omega) (by omega) (by omega) hd0 (by omega) (by omega) r45.rd (fun i hi => reflM_good (by omega) i (by rw [reflM_len]; exact hi)) r52.rd (fun i hi => mulM_good (p := p) (by omega) i (by rw [mulL_len]; exact hi))) (by rintro e w2 ⟨g, rc, h1, h2, h3⟩; exact ⟨g, rc, h1, h2 hd0, h3⟩) : Calls Try.prog _ _ _ fun e w2 => ∃ g rc, e = .returned (.slice (some ⟨g, 0, none⟩) d rc) ∧ OwnR w1.heap.size w2 (some ⟨g, 0, none⟩) d rc (mulL p (reflM p qs (bladeL d k) d) (mulL p (reflM p qs Mo d) R d d d) d d d) ∧ Ext w1 w2)).mono ?_; rintro e w2 ⟨g, rc, rfl, ho, g2⟩; exact ⟨_, rfl, g2, g, rc, rfl, ho.mono (Nat.le_trans (ext_drew _).size he.size)⟩); simp only [Act.put, List.setIfInBounds_toArray, List.set_cons_zero, List.set_cons_succ])
          obtain ⟨_, g53, c53, rfl, _⟩ := hv
          (refine LexW.pure (v := ?_) rfl rfl (fun w1 he => ?_) ?_; rotate_left; ( have e1 := he.cell HT0.out; have e2 := he.cell HT1.out; go_simp; rfl); simp only [Act.put, List.setIfInBounds_toArray, List.set_cons_zero, List.set_cons_succ])
          refine LexW.nil (fun w3 he hkn => ?_)
          obtain ⟨_, _, q53, r53⟩ : (SPred.ownR w5.heap.size d (mulL p (reflM p qs (bladeL d k) d) (mulL p (reflM p qs Mo d) R d d d) d d d)).holds (.slice (some ⟨g53, 0, none⟩) d c53) w3 := hkn (12, _) (by simp)
          cases q53
          have R53 := Lib.hid r53
          have HX5 := Lib.hid (HWE.out.trans he)
          clear he hkn r53
          have hgm : g53 ≠ g5 := by have := (R53.out.base_of g53 rfl).1; omega
          have HM7 : Hid (MatX W1 _ g5 (some ⟨g53, 0, none⟩) d c53 _) := Lib.hid (.inr ⟨g53, rfl, hgm, R53.out.mono HE5.out.size⟩)
          have HE7 := Lib.hid (HE5.out.trans HX5.out)
          replace HO5 := Lib.hid (HO5.out.ext HX5.out)
          go_wp2_with (fail)
          go_roundw
          case rel => exact ⟨k + 1, _, _, _, _, _, by omega, by go_num, rfl, rfl, Lib.hid (by rw [HSK.out, HDS.out, if_neg HNB.out, if_neg HNZ.out]; exact .inr HO5.out), Lib.hid (by rw [HSK.out, HDS.out, if_neg HNB.out, if_neg HNZ.out]; exact HM7.out), HE7⟩
          case measure => simp [intOf]; omega
    · obtain rfl : k = d := by omega
      go_wp2_with (fail)
      go_ret
      exact ⟨_, _, _, rfl, by have h1 := (HOK.out k (Nat.le_refl _)).2.1; have h2 := HO.out.rd.1; omega, HO.out.rd, GW.out.trans (G1.out.trans HE.out)⟩
end Go.Proofs.Ytnabpmafcflljaa

/-
  The decomposition of an isometry into reflections, in the reference.
  No condition.
-/
namespace Go.Proofs.Ytnabpmafcflljaa
set_option maxRecDepth 100000
open Go.RowKit

set_option maxHeartbeats 16000000 in
set_option maxRecDepth 100000 in
theorem s_decompose (p : Int) (a : Option Addr) (d cap : Nat) (qs : List Int) (ax1 : Option Addr) (cx1 : Nat) (xs1 : List (List Int)) (w : World) (hpr : primeB p = true) (hd0 : 0 < d) (hd : d ≤ 6) (hq : RdC w a d qs) (hqb : isB p qs = true) (hqn : ∀ i, i < d → nth qs i % p ≠ 0) (hx1 : RdR w ax1 d xs1) (hg : RowsG p d xs1) (hiso : isoM p qs xs1 d) :
    Calls Try.prog 59 #[.agg #[.int .i64 p, .slice a d cap], .slice ax1 d cx1] w fun e w' => ∃ ra n rc, e = .returned (.slice ra n rc) ∧ n ≤ 12 ∧ RdR w' ra n (decL p qs xs1 d) ∧ Ext w w' := by
  have hpb := prime_bd hpr
  have hp1 : 3 ≤ p := hpb.1
  have HGQ := Lib.hid (good_isB hq.1 hqb)
  have HQN := Lib.hid hqn
  have HOK : Hid (∀ i, i ≤ d → decOk p qs d i (decT p qs xs1 d i)) := Lib.hid (decT_ok hpr (fun i hi => ⟨hqn i hi, HGQ.out.2 i hi⟩) hg hx1.1 hiso)
  have HX := Lib.hid hx1
  have HPR := Lib.hid hpr
  have HQ := Lib.hid hq
  have HQB := Lib.hid hqb
  clear hq hqb hqn hx1 hg hiso hpr
  obtain ⟨W, hW⟩ : ∃ W, W = w.alloc (.cells #[.int .i64 p, .slice a d cap] 30) := ⟨_, rfl⟩
  have gW : Ext w W := by rw [hW]; exact ext_alloc _ _
  have hs0 : W.cell? ⟨w.heap.size, 0, none⟩ = some (.int .i64 p) := by rw [hW]; simp
  have hs1 : W.cell? ⟨w.heap.size, 1, none⟩ = some (.slice a d cap) := by rw [hW]; simp
  have HS0 := Lib.hid (hs0)
  have HS1 := Lib.hid (hs1)
  have GW := Lib.hid (gW)
  have HW := Lib.hid hW
  clear hs0 hs1 gW hW
  have HPM : Hid (IntKind.i64.wrap (p - 1) = p - 1) := Lib.hid (wrap_small _ (by omega) (by omega))
  go_enter Try.func59, Try.ntmps59
  go_wp2_with (fail)
  rw [← HW.out]
  obtain ⟨W1, hW1⟩ : ∃ x, x = W.alloc (.cells #[] 22) := ⟨_, rfl⟩
  have G1 : Hid (Ext W W1) := Lib.hid (by rw [hW1]; exact ext_alloc _ _)
  have hz1 : W.heap.size < W1.heap.size := by rw [hW1]; simp
  have HS0b := Lib.hid (G1.out.cell HS0.out)
  have HS1b := Lib.hid (G1.out.cell HS1.out)
  have HW1 := Lib.hid hW1
  clear hW1
  go_wp2_with (fail)
  rw [← HW1.out]
  go_loopw [1, 5, 6] (fun m o i wr => ∃ (k n g rc : Nat) (am : Option Addr) (cm : Nat), k ≤ d ∧ i = .int .i64 k ∧ o = .slice (some ⟨g, 0, none⟩) n rc ∧ m = .slice am d cm ∧ Hid (OwnX W1.heap.size wr (some ⟨g, 0, none⟩) n rc (decT p qs xs1 d k).1) ∧ Hid (MatX W1 wr g am d cm (decT p qs xs1 d k).2) ∧ Hid (Ext W1 wr)) (fun _ _ i _ => d - (intOf i).toNat)
  case atStart => exact ⟨0, 0, _, 0, ax1, cx1, Nat.zero_le _, rfl, rfl, rfl, Lib.hid (.inl ⟨rfl, rfl, rfl, _, rfl, (by have h := hz1; rw [HW.out] at h; simpa using h)⟩), Lib.hid (.inl (HX.out.ext (GW.out.trans G1.out))), Lib.hid (Ext.refl _)⟩
  case round =>
    obtain ⟨k, n, g, rc, am, cm, hk, rfl, rfl, rfl, HO, HM, HE⟩ := hrel
    by_cases hlt : k < d
    · have HOKk := Lib.hid (HOK.out k hk)
      have HSK : Hid (decT p qs xs1 d (k + 1) = decS p qs d k (decT p qs xs1 d k)) := Lib.hid rfl
      have HFACT := Lib.hid (decS_ok HPR.out (HQN.out k hlt) (HGQ.out.2 k hlt) hlt HOKk.out).2
      have HON := Lib.hid (HOK.out (k + 1) (by omega))
      obtain ⟨St, hSt⟩ : ∃ s, s = decT p qs xs1 d k := ⟨_, rfl⟩
      rw [← hSt] at HO HM HOKk HSK HFACT
      obtain ⟨O, hO⟩ : ∃ s, s = St.1 := ⟨_, rfl⟩
      obtain ⟨R, hR⟩ : ∃ s, s = St.2 := ⟨_, rfl⟩
      rw [← hO] at HO
      rw [← hR] at HM
      have HEqO := Lib.hid hO
      have HEqR := Lib.hid hR
      have HRG : Hid (RowsG p d R ∧ R.length = d) := Lib.hid (by rw [hR]; exact ⟨HOKk.out.2.2.1, HOKk.out.2.2.2.1⟩)
      have HNL : Hid (n ≤ 12) := Lib.hid (by have h1 := HOKk.out.2.1; have h2 := HO.out.rd.1; rw [← hO] at h1; omega)
      have HB := Lib.hid (show Good p d (bladeL d k) from blade_good hp1)
      have HGC := Lib.hid (col_good HRG.out.1 HRG.out.2 hlt)
      rw [← hR] at HFACT
      have HDS : Hid (decS p qs d k St = (if colL R k d = bladeL d k then St else if pairL p qs (lessV p R d k) (lessV p R d k) d ≠ 0 then (O ++ [lessV p R d k], mulL p (reflM p qs (lessV p R d k) d) R d d d) else (O ++ [moreV p R d k, bladeL d k], mulL p (reflM p qs (bladeL d k) d) (mulL p (reflM p qs (moreV p R d k) d) R d d d) d d d))) := Lib.hid (by rw [hO, hR]; rfl)
      clear hSt hO hR HOKk
      obtain ⟨L, hL⟩ : ∃ l, l = lessV p R d k := ⟨_, rfl⟩
      obtain ⟨Mo, hMo⟩ : ∃ l, l = moreV p R d k := ⟨_, rfl⟩
      have HGL : Hid (Good p d L) := Lib.hid (by rw [hL]; exact plus_good (by omega))
      have HGM : Hid (Good p d Mo) := Lib.hid (by rw [hMo]; exact plus_good (by omega))
      rw [← hL, ← hMo] at HFACT HDS
      have HL := Lib.hid hL
      have HMo := Lib.hid hMo
      clear hL hMo
      have hs0 := HE.out.cell HS0b.out
      have hs1 := HE.out.cell HS1b.out
      go_wp2_with (fail)
      refine Calls.mono (s_turn am d cm d R _ hd0 (by omega) (by omega) (fun i hi => (HRG.out.1 i (by rw [HRG.out.2]; exact hi)).1) (HM.out.rd HE.out)) ?_
      rintro e w3 ⟨gt, ct, rfl, ot, x3⟩
      obtain ⟨aw, cw, hcw, how⟩ := ot.at hlt
      rw [turnL_nth hlt, colL_len] at hcw how
      have HWk := Lib.hid how
      have X3 := Lib.hid x3
      replace hs0 := x3.cell hs0
      replace hs1 := x3.cell hs1
      obtain ⟨w0, hmk, hown0, hext0⟩ := make_ints w3 d (by omega)
      obtain ⟨g0, hg0⟩ : ∃ g, g = w3.heap.size := ⟨_, rfl⟩
      rw [← hg0] at hmk hown0
      have hge : w3.heap.size ≤ g0 := by omega
      have HO0 := Lib.hid hown0
      have HE0 := Lib.hid hext0
      have hcg := hown0.cell hlt
      have hfz := hown0.frozen k
      have hs0c := hext0.cell hs0
      have hs1c := hext0.cell hs1
      have hl0 : w.heap.size < g0 := by have hb0 : w.heap.size < W.heap.size := lt_of_cell HS0.out; have := G1.out.size'; have := HE.out.size'; have := X3.out.size'; omega
      clear ot how x3 hown0 hext0 hg0
      go_wp2_with (fail)
      clear hs0 hs1 hs0c hs1c hcg hfz hmk hcw
      have X5 := Lib.hid (HE0.out.setCell (p := ⟨g0, k, none⟩) hge (.int .i64 1))
      have HEk : Hid (OwnC w3.heap.size _ (some ⟨g0, 0, none⟩) d d (bladeL d k)) := Lib.hid ((HO0.out.store hlt 1).mono hge)
      obtain ⟨w5, hw5⟩ : ∃ x, x = w0.setCell ⟨g0, k, none⟩ (.int .i64 1) := ⟨_, rfl⟩
      rw [← hw5] at X5 HEk ⊢
      have hs0 := X5.out.cell (X3.out.cell (HE.out.cell HS0b.out))
      have hs1 := X5.out.cell (X3.out.cell (HE.out.cell HS1b.out))
      have HW5 := Lib.hid (HWk.out.ext X5.out)
      have X4 := Lib.hid (X3.out.trans X5.out)
      clear hw5 X5 HO0 HE0
      go_wp2_with (fail)
      refine Calls.mono (s_same aw _ d d cw d (colL R k d) (bladeL d k) _ (by omega) (by omega) HW5.out.rd HEk.out.rd) ?_
      rintro e w7 ⟨rfl, x7⟩
      have X7 := Lib.hid (X4.out.trans x7)
      have HW7 := Lib.hid (HW5.out.ext x7)
      have HE7k := Lib.hid (HEk.out.ext x7)
      replace hs0 := x7.cell hs0
      replace hs1 := x7.cell hs1
      clear x7
      by_cases hzb : colL R k d = bladeL d k
      · have hzt : eqB (colL R k d) (bladeL d k) = true := by rw [hzb, eqB_self]
        have HZ := Lib.hid hzb
        clear hzb
        go_wp2_with (fail)
        go_roundw
        case rel => exact ⟨k + 1, _, _, _, _, _, by omega, by go_num, rfl, rfl, Lib.hid (by rw [HSK.out, HDS.out, if_pos HZ.out, ← HEqO.out]; exact HO.out.ext X7.out), Lib.hid (by rw [HSK.out, HDS.out, if_pos HZ.out, ← HEqR.out]; exact HM.out.ext X7.out), Lib.hid (HE.out.trans X7.out)⟩
        case measure => simp [intOf]; omega
      have hzf : eqB (colL R k d) (bladeL d k) = false := by rw [eqB]; simpa using hzb
      have HNB := Lib.hid hzb
      clear hzb
      have hpm := HPM.out
      go_wp2_with (fail)
      refine Calls.mono (s_plus p aw _ d cw d (colL R k d) (bladeL d k) (p - 1) _ (by omega) (by omega) (by omega) (by omega) HW7.out.rd HE7k.out.rd HGC.out HB.out) ?_
      rintro e w8 ⟨gl, cl, rfl, ol, x8⟩
      rw [plus_minus] at ol
      have HLl8 : Hid (OwnC w7.heap.size w8 (some ⟨gl, 0, none⟩) d cl L) := Lib.hid (by rw [HL.out]; exact ol)
      have X8 := Lib.hid (X7.out.trans x8)
      have HW8 := Lib.hid (HW7.out.ext x8)
      have HE8k := Lib.hid (HE7k.out.ext x8)
      replace hs0 := x8.cell hs0
      replace hs1 := x8.cell hs1
      clear ol x8 hzf hpm
      go_wp2_with (fail)
      refine Calls.mono (s_pair p a d cap qs _ cl L _ cl L _ (by omega) (by omega) hd (HQ.out.ext ((GW.out.trans (G1.out.trans HE.out)).trans X8.out)) HQB.out HLl8.out.rd HGL.out HLl8.out.rd HGL.out) ?_
      rintro e w9 ⟨rfl, x9⟩
      have HLl9 := Lib.hid (HLl8.out.ext x9)
      have X9 := Lib.hid (X8.out.trans x9)
      have HW9 := Lib.hid (HW8.out.ext x9)
      have HE9k := Lib.hid (HE8k.out.ext x9)
      replace hs0 := x9.cell hs0
      replace hs1 := x9.cell hs1
      clear x9
      obtain ⟨pv, hpv⟩ : ∃ x, x = pairL p qs L L d := ⟨_, rfl⟩
      have HPV := Lib.hid hpv
      rw [← hpv] at HFACT HDS ⊢
      clear hpv
      have HFB := Lib.hid HFACT.out.2
      by_cases hnz : pv ≠ 0
      · have hpb : (pv != 0) = true := by simp [hnz]
        have HNZ := Lib.hid hnz
        have HNL2 : Hid (pairL p qs L L d ≠ 0) := Lib.hid (by rw [← HPV.out]; exact hnz)
        clear hnz
        go_wp2_with (at_builtin; refine wpList_appendX rfl (.tmp 47) (.tmp 49) rfl (B := W1.heap.size) (rows := O) (rows2 := [L]) (us := [.slice (some ⟨gl, 0, none⟩) d cl]) (m := 1) rfl rfl ((HO.out.ext X9.out).ext (ext_alloc _ _)) rfl rfl ?hc ?hx (by omega) (by have := HNL.out; omega) (by omega) ?hb ?hk)
        case hc =>
          intro j u hj
          match j, hj with
          | 0, hj => simp only [List.getElem?_cons_zero, Option.some.injEq] at hj; subst hj; simp
        case hx =>
          intro i hi
          obtain rfl : i = 0 := by omega
          refine ⟨(some ⟨gl, 0, none⟩), cl, ?_, ?_⟩
          · show _ = some (Value.slice _ (L).length _)
            rw [HGL.out.1]; rfl
          · show OwnC 0 _ _ (L).length _ (L)
            rw [HGL.out.1]
            exact (HLl9.out.ext (ext_alloc _ _)).mono (Nat.zero_le _)
        case hb => exact Nat.le_trans HE.out.size (Nat.le_trans X9.out.size (ext_alloc _ _).size)
        case hk =>
          intro g5 c5 w5 row ho5 hgr hrow hnew he5
          have HE5 := Lib.hid (he5 W1 (Nat.le_refl _) ((HE.out.trans X9.out).alloc _))
          have HM5 := Lib.hid (((HM.out.ext X9.out).ext (ext_alloc _ (.cells #[.slice (some ⟨gl, 0, none⟩) d cl] 22))).app hgr hrow (by simpa using hnew))
          have HLl5 := Lib.hid ((HLl9.out.ext (ext_alloc _ (.cells #[.slice (some ⟨gl, 0, none⟩) d cl] 22))).grown hgr (fun q hq => by rcases hrow with e | ⟨hv, e⟩; (rw [e]; exact fun h => by cases h); (obtain ⟨_, vs, h3, _⟩ := hv; rw [e]; exact own_apart h3 (HLl9.out.ext (ext_alloc _ (.cells #[.slice (some ⟨gl, 0, none⟩) d cl] 22))) q hq)))
          have HO5 := Lib.hid ho5
          have hg5 : g5 < w5.heap.size := by obtain ⟨_, vs, h3, _⟩ := ho5; exact (h3.lt g5 rfl).2
          clear ho5 hgr hrow hnew he5 HO HM
          have hs05 := HE5.out.cell HS0b.out
          have hs15 := HE5.out.cell HS1b.out
          go_wp2_with (fail)
          have HT0 := Lib.hid ((ext_drew _).cell hs05)
          have HT1 := Lib.hid ((ext_drew _).cell hs15)
          have GX := Lib.hid ((GW.out.trans (G1.out.trans HE5.out)).trans (ext_drew _))
          have HMR := Lib.hid ((HM5.out.rd HE5.out).ext (ext_drew _))
          have HWE := Lib.hid (ext_drew w5)
          clear hs05 hs15
          refine wp_region_lex [(4, .ownR w5.heap.size d (reflM p qs L d)), (6, .ownR w5.heap.size d (mulL p (reflM p qs L d) R d d d))] (by kernel_rfl) (by kernel_rfl) ?_
          (refine LexW.pure (v := ?_) rfl rfl (fun w1 he => ?_) ?_; rotate_left; ( have e1 := he.cell HT0.out; have e2 := he.cell HT1.out; go_simp; rfl); simp only [Act.put, List.setIfInBounds_toArray, List.set_cons_zero, List.set_cons_succ])
          (refine LexW.pure (v := ?_) rfl rfl (fun w1 he => ?_) ?_; rotate_left; ( have e1 := he.cell HT0.out; have e2 := he.cell HT1.out; go_simp; rfl); simp only [Act.put, List.setIfInBounds_toArray, List.set_cons_zero, List.set_cons_succ])
          (refine LexW.pure (v := ?_) rfl rfl (fun w1 he => ?_) ?_; rotate_left; ( have e1 := he.cell HT0.out; have e2 := he.cell HT1.out; go_simp; rfl); simp only [Act.put, List.setIfInBounds_toArray, List.set_cons_zero, List.set_cons_succ])
          (refine LexW.pure (v := ?_) rfl rfl (fun w1 he => ?_) ?_; rotate_left; ( have e1 := he.cell HT0.out; have e2 := he.cell HT1.out; go_simp; rfl); simp only [Act.put, List.setIfInBounds_toArray, List.set_cons_zero, List.set_cons_succ])
          (refine LexW.callR (f := ?_) (args := ?_) rfl rfl (fun w1 => ?_) (fun w1 he hdep => ?_) (fun v hv => ?_); rotate_left 2; (go_simp; refine ⟨?_, ?_⟩ <;> rfl); ( refine (s_reflection p a d cap qs (some ⟨gl, 0, none⟩) cl L w1 HPR.out hd0 hd (HQ.out.ext (GX.out.trans he)) HQB.out ((HLl5.out.rd.ext HWE.out).ext he) HGL.out HNL2.out).mono ?_; rintro e w2 ⟨g, rc, rfl, ho, g2⟩; exact ⟨_, rfl, g2, g, rc, rfl, ho.mono (Nat.le_trans (ext_drew _).size he.size)⟩); simp only [Act.put, List.setIfInBounds_toArray, List.set_cons_zero, List.set_cons_succ])
          obtain ⟨_, g55, c55, rfl, _⟩ := hv
          (refine LexW.pure (v := ?_) rfl rfl (fun w1 he => ?_) ?_; rotate_left; ( have e1 := he.cell HT0.out; have e2 := he.cell HT1.out; go_simp; rfl); simp only [Act.put, List.setIfInBounds_toArray, List.set_cons_zero, List.set_cons_succ])
          (refine LexW.callR (f := ?_) (args := ?_) rfl rfl (fun w1 => ?_) (fun w1 he hdep => ?_) (fun v hv => ?_); rotate_left 2; (go_simp; refine ⟨?_, ?_⟩ <;> rfl); ( obtain ⟨_, _, q55, r55⟩ : (SPred.ownR w5.heap.size d (reflM p qs L d)).holds (.slice (some ⟨g55, 0, none⟩) d c55) w1 := hdep (4, 55) (by decide +kernel); cases q55; refine (s_mtimes p (some ⟨g55, 0, none⟩) d c55 (reflM p qs L d) am d cm R d w1 (by omega) (by omega) (by omega) hd0 (by omega) (by omega) r55.rd (fun i hi => reflM_good (by omega) i (by rw [reflM_len]; exact hi)) (HMR.out.ext he) (fun i hi => HRG.out.1 i (by rw [HRG.out.2]; exact hi))).mono ?_; rintro e w2 ⟨g, rc, rfl, ho, g2⟩; exact ⟨_, rfl, g2, g, rc, rfl, ho.mono (Nat.le_trans (ext_drew _).size he.size)⟩); simp only [Act.put, List.setIfInBounds_toArray, List.set_cons_zero, List.set_cons_succ])
          obtain ⟨_, g57, c57, rfl, _⟩ := hv
          (refine LexW.pure (v := ?_) rfl rfl (fun w1 he => ?_) ?_; rotate_left; ( have e1 := he.cell HT0.out; have e2 := he.cell HT1.out; go_simp; rfl); simp only [Act.put, List.setIfInBounds_toArray, List.set_cons_zero, List.set_cons_succ])
          refine LexW.nil (fun w3 he hkn => ?_)
          obtain ⟨_, _, q57, r57⟩ : (SPred.ownR w5.heap.size d (mulL p (reflM p qs L d) R d d d)).holds (.slice (some ⟨g57, 0, none⟩) d c57) w3 := hkn (6, _) (by simp)
          cases q57
          have R57 := Lib.hid r57
          have HX5 := Lib.hid (HWE.out.trans he)
          clear he hkn r57
          have hgm : g57 ≠ g5 := by have := (R57.out.base_of g57 rfl).1; omega
          have HM7 : Hid (MatX W1 _ g5 (some ⟨g57, 0, none⟩) d c57 _) := Lib.hid (.inr ⟨g57, rfl, hgm, R57.out.mono HE5.out.size⟩)
          have HE7 := Lib.hid (HE5.out.trans HX5.out)
          replace HO5 := Lib.hid (HO5.out.ext HX5.out)
          go_wp2_with (fail)
          go_roundw
          case rel => exact ⟨k + 1, _, _, _, _, _, by omega, by go_num, rfl, rfl, Lib.hid (by rw [HSK.out, HDS.out, if_neg HNB.out, if_pos HNZ.out]; exact .inr HO5.out), Lib.hid (by rw [HSK.out, HDS.out, if_neg HNB.out, if_pos HNZ.out]; exact HM7.out), HE7⟩
          case measure => simp [intOf]; omega
      · have hpb : (pv != 0) = false := by simpa using hnz
        have HFM := Lib.hid (HFACT.out.1 HNB.out (Classical.not_not.1 hnz))
        have HNZ := Lib.hid hnz
        clear hnz
        go_wp2_with (fail)
        refine Calls.mono (s_plus p aw _ d cw d (colL R k d) (bladeL d k) 1 _ (by omega) (by omega) (by omega) (by omega) HW9.out.rd HE9k.out.rd HGC.out HB.out) ?_
        rintro e w10 ⟨gq, cq, rfl, oq, x10⟩
        have HMo10 : Hid (OwnC w9.heap.size w10 (some ⟨gq, 0, none⟩) d cq Mo) := Lib.hid (by rw [HMo.out]; exact oq)
        have X10 := Lib.hid (X9.out.trans x10)
        have HE10 := Lib.hid (HE9k.out.ext x10)
        replace hs0 := x10.cell hs0
        replace hs1 := x10.cell hs1
        clear oq x10
        go_wp2_with (at_builtin; refine wpList_appendX rfl (.tmp 63) (.tmp 66) rfl (B := W1.heap.size) (rows := O) (rows2 := [Mo, (bladeL d k)]) (us := [.slice (some ⟨gq, 0, none⟩) d cq, .slice (some ⟨g0, 0, none⟩) d d]) (m := 2) rfl rfl ((HO.out.ext X10.out).ext (ext_alloc _ _)) rfl rfl ?hc ?hx (by omega) (by have := HNL.out; omega) (by omega) ?hb ?hk)
        case hc =>
          intro j u hj
          match j, hj with
          | 0, hj => simp only [List.getElem?_cons_zero, Option.some.injEq] at hj; subst hj; simp
          | 1, hj => simp only [List.getElem?_cons_succ, List.getElem?_cons_zero, Option.some.injEq] at hj; subst hj; simp
        case hx =>
          intro i hi
          have hi2 : i = 0 ∨ i = 1 := by omega
          rcases hi2 with rfl | rfl
          · refine ⟨(some ⟨gq, 0, none⟩), cq, ?_, ?_⟩
            · show _ = some (Value.slice _ (Mo).length _)
              rw [HGM.out.1]; rfl
            · show OwnC 0 _ _ (Mo).length _ (Mo)
              rw [HGM.out.1]
              exact (HMo10.out.ext (ext_alloc _ _)).mono (Nat.zero_le _)
          · refine ⟨(some ⟨g0, 0, none⟩), d, ?_, ?_⟩
            · show _ = some (Value.slice _ ((bladeL d k)).length _)
              rw [bladeL_len d k]; rfl
            · show OwnC 0 _ _ ((bladeL d k)).length _ ((bladeL d k))
              rw [bladeL_len d k]
              exact (HE10.out.ext (ext_alloc _ _)).mono (Nat.zero_le _)
        case hb => exact Nat.le_trans HE.out.size (Nat.le_trans X10.out.size (ext_alloc _ _).size)
        case hk =>
          intro g5 c5 w5 row ho5 hgr hrow hnew he5
          have HE5 := Lib.hid (he5 W1 (Nat.le_refl _) ((HE.out.trans X10.out).alloc _))
          have HM5 := Lib.hid (((HM.out.ext X10.out).ext (ext_alloc _ (.cells #[.slice (some ⟨gq, 0, none⟩) d cq, .slice (some ⟨g0, 0, none⟩) d d] 22))).app hgr hrow (by simpa using hnew))
          have HMo5 := Lib.hid ((HMo10.out.ext (ext_alloc _ (.cells #[.slice (some ⟨gq, 0, none⟩) d cq, .slice (some ⟨g0, 0, none⟩) d d] 22))).grown hgr (fun q hq => by rcases hrow with e | ⟨hv, e⟩; (rw [e]; exact fun h => by cases h); (obtain ⟨_, vs, h3, _⟩ := hv; rw [e]; exact own_apart h3 (HMo10.out.ext (ext_alloc _ (.cells #[.slice (some ⟨gq, 0, none⟩) d cq, .slice (some ⟨g0, 0, none⟩) d d] 22))) q hq)))
          have HE5b := Lib.hid ((HE10.out.ext (ext_alloc _ (.cells #[.slice (some ⟨gq, 0, none⟩) d cq, .slice (some ⟨g0, 0, none⟩) d d] 22))).grown hgr (fun q hq => by rcases hrow with e | ⟨hv, e⟩; (rw [e]; exact fun h => by cases h); (obtain ⟨_, vs, h3, _⟩ := hv; rw [e]; exact own_apart h3 (HE10.out.ext (ext_alloc _ (.cells #[.slice (some ⟨gq, 0, none⟩) d cq, .slice (some ⟨g0, 0, none⟩) d d] 22))) q hq)))
          have HO5 := Lib.hid ho5
          have hg5 : g5 < w5.heap.size := by obtain ⟨_, vs, h3, _⟩ := ho5; exact (h3.lt g5 rfl).2
          clear ho5 hgr hrow hnew he5 HO HM
          have hs05 := HE5.out.cell HS0b.out
          have hs15 := HE5.out.cell HS1b.out
          go_wp2_with (fail)
          have HT0 := Lib.hid ((ext_drew _).cell hs05)
          have HT1 := Lib.hid ((ext_drew _).cell hs15)
          have GX := Lib.hid ((GW.out.trans (G1.out.trans HE5.out)).trans (ext_drew _))
          have HMR := Lib.hid ((HM5.out.rd HE5.out).ext (ext_drew _))
          have HWE := Lib.hid (ext_drew w5)
          clear hs05 hs15
          refine wp_region_lex [(4, .ownR w5.heap.size d (reflM p qs (bladeL d k) d)), (9, .ownR w5.heap.size d (reflM p qs Mo d)), (11, .ownR w5.heap.size d (mulL p (reflM p qs Mo d) R d d d)), (12, .ownR w5.heap.size d (mulL p (reflM p qs (bladeL d k) d) (mulL p (reflM p qs Mo d) R d d d) d d d))] (by kernel_rfl) (by kernel_rfl) ?_
          (refine LexW.pure (v := ?_) rfl rfl (fun w1 he => ?_) ?_; rotate_left; ( have e1 := he.cell HT0.out; have e2 := he.cell HT1.out; go_simp; rfl); simp only [Act.put, List.setIfInBounds_toArray, List.set_cons_zero, List.set_cons_succ])
          (refine LexW.pure (v := ?_) rfl rfl (fun w1 he => ?_) ?_; rotate_left; ( have e1 := he.cell HT0.out; have e2 := he.cell HT1.out; go_simp; rfl); simp only [Act.put, List.setIfInBounds_toArray, List.set_cons_zero, List.set_cons_succ])
          (refine LexW.pure (v := ?_) rfl rfl (fun w1 he => ?_) ?_; rotate_left; ( have e1 := he.cell HT0.out; have e2 := he.cell HT1.out; go_simp; rfl); simp only [Act.put, List.setIfInBounds_toArray, List.set_cons_zero, List.set_cons_succ])
          (refine LexW.pure (v := ?_) rfl rfl (fun w1 he => ?_) ?_; rotate_left; ( have e1 := he.cell HT0.out; have e2 := he.cell HT1.out; go_simp; rfl); simp only [Act.put, List.setIfInBounds_toArray, List.set_cons_zero, List.set_cons_succ])
          (refine LexW.callR (f := ?_) (args := ?_) rfl rfl (fun w1 => ?_) (fun w1 he hdep => ?_) (fun v hv => ?_); rotate_left 2; (go_simp; refine ⟨?_, ?_⟩ <;> rfl); ( refine (s_reflection p a d cap qs (some ⟨g0, 0, none⟩) d (bladeL d k) w1 HPR.out hd0 hd (HQ.out.ext (GX.out.trans he)) HQB.out ((HE5b.out.rd.ext HWE.out).ext he) HB.out HFB.out).mono ?_; rintro e w2 ⟨g, rc, rfl, ho, g2⟩; exact ⟨_, rfl, g2, g, rc, rfl, ho.mono (Nat.le_trans (ext_drew _).size he.size)⟩); simp only [Act.put, List.setIfInBounds_toArray, List.set_cons_zero, List.set_cons_succ])
          obtain ⟨_, g72, c72, rfl, _⟩ := hv
          (refine LexW.pure (v := ?_) rfl rfl (fun w1 he => ?_) ?_; rotate_left; ( have e1 := he.cell HT0.out; have e2 := he.cell HT1.out; go_simp; rfl); simp only [Act.put, List.setIfInBounds_toArray, List.set_cons_zero, List.set_cons_succ])
          (refine LexW.pure (v := ?_) rfl rfl (fun w1 he => ?_) ?_; rotate_left; ( have e1 := he.cell HT0.out; have e2 := he.cell HT1.out; go_simp; rfl); simp only [Act.put, List.setIfInBounds_toArray, List.set_cons_zero, List.set_cons_succ])
          (refine LexW.pure (v := ?_) rfl rfl (fun w1 he => ?_) ?_; rotate_left; ( have e1 := he.cell HT0.out; have e2 := he.cell HT1.out; go_simp; rfl); simp only [Act.put, List.setIfInBounds_toArray, List.set_cons_zero, List.set_cons_succ])
          (refine LexW.pure (v := ?_) rfl rfl (fun w1 he => ?_) ?_; rotate_left; ( have e1 := he.cell HT0.out; have e2 := he.cell HT1.out; go_simp; rfl); simp only [Act.put, List.setIfInBounds_toArray, List.set_cons_zero, List.set_cons_succ])
          (refine LexW.callR (f := ?_) (args := ?_) rfl rfl (fun w1 => ?_) (fun w1 he hdep => ?_) (fun v hv => ?_); rotate_left 2; (go_simp; refine ⟨?_, ?_⟩ <;> rfl); ( refine (s_reflection p a d cap qs (some ⟨gq, 0, none⟩) cq Mo w1 HPR.out hd0 hd (HQ.out.ext (GX.out.trans he)) HQB.out ((HMo5.out.rd.ext HWE.out).ext he) HGM.out HFM.out).mono ?_; rintro e w2 ⟨g, rc, rfl, ho, g2⟩; exact ⟨_, rfl, g2, g, rc, rfl, ho.mono (Nat.le_trans (ext_drew _).size he.size)⟩); simp only [Act.put, List.setIfInBounds_toArray, List.set_cons_zero, List.set_cons_succ])
          obtain ⟨_, g77, c77, rfl, _⟩ := hv
          (refine LexW.pure (v := ?_) rfl rfl (fun w1 he => ?_) ?_; rotate_left; ( have e1 := he.cell HT0.out; have e2 := he.cell HT1.out; go_simp; rfl); simp only [Act.put, List.setIfInBounds_toArray, List.set_cons_zero, List.set_cons_succ])
          (refine LexW.callR (f := ?_) (args := ?_) rfl rfl (fun w1 => ?_) (fun w1 he hdep => ?_) (fun v hv => ?_); rotate_left 2; (go_simp; refine ⟨?_, ?_⟩ <;> rfl); ( obtain ⟨_, _, q77, r77⟩ : (SPred.ownR w5.heap.size d (reflM p qs Mo d)).holds (.slice (some ⟨g77, 0, none⟩) d c77) w1 := hdep (9, 77) (by decide +kernel); cases q77; refine (s_mtimes p (some ⟨g77, 0, none⟩) d c77 (reflM p qs Mo d) am d cm R d w1 (by omega) (by omega) (by omega) hd0 (by omega) (by omega) r77.rd (fun i hi => reflM_good (by omega) i (by rw [reflM_len]; exact hi)) (HMR.out.ext he) (fun i hi => HRG.out.1 i (by rw [HRG.out.2]; exact hi))).mono ?_; rintro e w2 ⟨g, rc, rfl, ho, g2⟩; exact ⟨_, rfl, g2, g, rc, rfl, ho.mono (Nat.le_trans (ext_drew _).size he.size)⟩); simp only [Act.put, List.setIfInBounds_toArray, List.set_cons_zero, List.set_cons_succ])
          obtain ⟨_, g79, c79, rfl, _⟩ := hv
          (refine LexW.callR (f := ?_) (args := ?_) rfl rfl (fun w1 => ?_) (fun w1 he hdep => ?_) (fun v hv => ?_); rotate_left 2; (go_simp; refine ⟨?_, ?_⟩ <;> rfl); ( obtain ⟨_, _, q72, r72⟩ : (SPred.ownR w5.heap.size d (reflM p qs (bladeL d k) d)).holds (.slice (some ⟨g72, 0, none⟩) d c72) w1 := hdep (4, 72) (by decide +kernel); cases q72; obtain ⟨_, _, q79, r79⟩ : (SPred.ownR w5.heap.size d (mulL p (reflM p qs Mo d) R d d d)).holds (.slice (some ⟨g79, 0, none⟩) d c79) w1 := hdep (11, 79) (by decide +kernel); cases q79; refine (s_mtimes p (some ⟨g72, 0, none⟩) d c72 (reflM p qs (bladeL d k) d) (some ⟨g79, 0, none⟩) d c79 (mulL p (reflM p qs Mo d) R d d d) d w1 (by omega) (by omega) (by omega) hd0 (by omega) (by omega) r72.rd (fun i hi => reflM_good (by omega) i (by rw [reflM_len]; exact hi)) r79.rd (fun i hi => mulM_good (p := p) (by omega) i (by rw [mulL_len]; exact hi))).mono ?_; rintro e w2 ⟨g, rc, rfl, ho, g2⟩; exact ⟨_, rfl, g2, g, rc, rfl, ho.mono (Nat.le_trans (ext_drew _).size he.size)⟩); simp only [Act.put, List.setIfInBounds_toArray, List.set_cons_zero, List.set_cons_succ])
          obtain ⟨_, g80, c80, rfl, _⟩ := hv
          (refine LexW.pure (v := ?_) rfl rfl (fun w1 he => ?_) ?_; rotate_left; ( have e1 := he.cell HT0.out; have e2 := he.cell HT1.out; go_simp; rfl); simp only [Act.put, List.setIfInBounds_toArray, List.set_cons_zero, List.set_cons_succ])
          refine LexW.nil (fun w3 he hkn => ?_)
          obtain ⟨_, _, q80, r80⟩ : (SPred.ownR w5.heap.size d (mulL p (reflM p qs (bladeL d k) d) (mulL p (reflM p qs Mo d) R d d d) d d d)).holds (.slice (some ⟨g80, 0, none⟩) d c80) w3 := hkn (12, _) (by simp)
          cases q80
          have R80 := Lib.hid r80
          have HX5 := Lib.hid (HWE.out.trans he)
          clear he hkn r80
          have hgm : g80 ≠ g5 := by have := (R80.out.base_of g80 rfl).1; omega
          have HM7 : Hid (MatX W1 _ g5 (some ⟨g80, 0, none⟩) d c80 _) := Lib.hid (.inr ⟨g80, rfl, hgm, R80.out.mono HE5.out.size⟩)
          have HE7 := Lib.hid (HE5.out.trans HX5.out)
          replace HO5 := Lib.hid (HO5.out.ext HX5.out)
          go_wp2_with (fail)
          go_roundw
          case rel => exact ⟨k + 1, _, _, _, _, _, by omega, by go_num, rfl, rfl, Lib.hid (by rw [HSK.out, HDS.out, if_neg HNB.out, if_neg HNZ.out]; exact .inr HO5.out), Lib.hid (by rw [HSK.out, HDS.out, if_neg HNB.out, if_neg HNZ.out]; exact HM7.out), HE7⟩
          case measure => simp [intOf]; omega
    · obtain rfl : k = d := by omega
      have hs0 := HE.out.cell HS0b.out
      have hs1 := HE.out.cell HS1b.out
      go_wp2_with (fail)
      go_ret
      exact ⟨_, _, _, rfl, by have h1 := (HOK.out k (Nat.le_refl _)).2.1; have h2 := HO.out.rd.1; omega, HO.out.rd, GW.out.trans (G1.out.trans HE.out)⟩
end Go.Proofs.Ytnabpmafcflljaa
