/-
  Contracts and plain laws, part 3: Eleven, RowsA, Rows2, RowsC, Gauss, Vecs, CodesV, Norm.
  No condition.
-/
import Derived.Test.YtcocbainookkcaaPart1
import Derived.Test.YtcocbainookkcaaPart2
import Derived.Test.YtcocbainookkcaaPart0
/-
  Sums and multiples of elements in the reference: contracts.
  No condition.
-/
namespace Go.Proofs.Ytcocbainookkcaa
set_option maxRecDepth 100000
open Go.RowKit

set_option maxHeartbeats 400000 in
theorem s_mod (p n : Int) (w : World) (h1 : 1 ≤ p) (h2 : p ≤ 1000) :
    Calls Try.prog 55 #[.int .i64 p, .int .i64 n] w fun e w' => e = .returned (.int .i64 (n % p)) ∧ Ext w w' := by
  have HE := Lib.hid (num_eq (n := n) h1 h2)
  have hpz : ¬ p = 0 := by omega
  go_enter Try.func55, Try.ntmps55
  go_wp2
  go_ret
  exact ⟨ret_int HE.out, Ext.refl _⟩
set_option maxHeartbeats 1000000 in
theorem s_scale11 (p : Int) (ax : Option Addr) (n cx : Nat) (x : List Int) (k : Int) (w : World) (hp1 : 3 ≤ p) (hp2 : p ≤ 1000) (hk : -1000 ≤ k ∧ k ≤ 1000) (hn : n ≤ 4194303) (hx : RdC w ax n x) (hgx : Good p n x) :
    Calls Try.prog 58 #[.int .i64 p, .int .i64 k, .slice ax n cx] w fun e w' => ∃ g rc, e = .returned (.slice (some ⟨g, 0, none⟩) n rc) ∧ OwnC w.heap.size w' (some ⟨g, 0, none⟩) n rc (scaleL p x k n) ∧ Ext w w' := by
  have HX := Lib.hid hx
  have HGX := Lib.hid hgx
  clear hx hgx
  go_enter Try.func58, Try.ntmps58
  go_wp2_with (fail)
  go_loopw [7, 8] (fun v i wr => ∃ (j g rc : Nat), j ≤ n ∧ i = .int .i64 j ∧ v = .slice (some ⟨g, 0, none⟩) j rc ∧ OwnC w.heap.size wr (some ⟨g, 0, none⟩) j rc (scaleL p x k j) ∧ Ext w wr) (fun _ i _ => n - (intOf i).toNat)
  case atStart => exact ⟨0, _, _, Nat.zero_le _, rfl, rfl, own_empty w, ext_alloc _ _⟩
  case round =>
    obtain ⟨j, g, rc, hj, rfl, rfl, hown, hext⟩ := hrel
    have HOwn := Lib.hid hown
    have HExt := Lib.hid hext
    clear hown hext
    by_cases hlt : j < n
    · obtain ⟨bx, ox, rfl, hcx⟩ := HX.out.2 j hlt
      have hcx' := HExt.out.cell hcx
      have hbx := HGX.out.2 j hlt
      have hkb := kmul_bd hk hbx.1 (show nth x j ≤ 1000 by omega)
      have hw1 : IntKind.i64.wrap (k * nth x j) = k * nth x j := IntWalk.i64_in _ (by omega)
      have HP := Lib.hid (show (k * nth x j) % p = scaleN p x k j by unfold scaleN; rw [Int.mul_comm])
      clear hcx
      go_wp2_with (first | (go_at_call 55; refine (s_mod _ _ _ (by omega) hp2).mono ?_; rintro e w2 ⟨rfl, g2⟩; rw [HP.out]; have G2 := Lib.hid g2; clear g2) | (at_builtin; refine wpList_push rfl (.tmp 16) (.tmp 25) rfl rfl rfl (v := scaleN p x k j) (HOwn.out.ext (G2.out.trans (ext_alloc _ _))) ?hc ?hn ?hB ?hk))
      case hc => simp
      case hn => omega
      case hB => have hz := (HExt.out.trans G2.out).size'; simp; omega
      case hk =>
        intro g' cap' w3 ho3 hg3 he3
        have HO3 := Lib.hid ho3
        have HE3 := Lib.hid (he3 w (Nat.le_refl _) ((HExt.out.trans G2.out).alloc _))
        clear ho3 hg3 he3
        go_wp2_with (fail)
        go_roundw
        case rel => exact ⟨j + 1, g', cap', by omega, by go_num, rfl, by rw [scaleL_succ]; exact HO3.out, HE3.out⟩
        case measure => simp [intOf]; omega
    · go_wp2_with (fail)
      go_ret
      obtain rfl : j = n := by omega
      exact ⟨g, rc, rfl, HOwn.out, HExt.out⟩
set_option maxHeartbeats 1000000 in
theorem s_add11 (p : Int) (ax ay : Option Addr) (n cx cy : Nat) (x y : List Int) (w : World) (hp1 : 3 ≤ p) (hp2 : p ≤ 1000) (hn : n ≤ 4194303) (hx : RdC w ax n x) (hy : RdC w ay n y) (hgx : ∀ i, i < n → 0 ≤ nth x i ∧ nth x i ≤ 1000) (hgy : Good p n y) :
    Calls Try.prog 106 #[.int .i64 p, .slice ax n cx, .slice ay n cy] w fun e w' => ∃ g rc, e = .returned (.slice (some ⟨g, 0, none⟩) n rc) ∧ OwnC w.heap.size w' (some ⟨g, 0, none⟩) n rc (plusL p x y 1 n) ∧ Ext w w' := by
  have HX := Lib.hid hx
  have HY := Lib.hid hy
  have HGX := Lib.hid hgx
  have HGY := Lib.hid hgy
  clear hx hy hgx hgy
  go_enter Try.func106, Try.ntmps106
  go_wp2_with (fail)
  go_loopw [7, 8] (fun v i wr => ∃ (j g rc : Nat), j ≤ n ∧ i = .int .i64 j ∧ v = .slice (some ⟨g, 0, none⟩) j rc ∧ OwnC w.heap.size wr (some ⟨g, 0, none⟩) j rc (plusL p x y 1 j) ∧ Ext w wr) (fun _ i _ => n - (intOf i).toNat)
  case atStart => exact ⟨0, _, _, Nat.zero_le _, rfl, rfl, own_empty w, ext_alloc _ _⟩
  case round =>
    obtain ⟨j, g, rc, hj, rfl, rfl, hown, hext⟩ := hrel
    have HOwn := Lib.hid hown
    have HExt := Lib.hid hext
    clear hown hext
    by_cases hlt : j < n
    · obtain ⟨bx, ox, rfl, hcx⟩ := HX.out.2 j hlt
      obtain ⟨by', oy, rfl, hcy⟩ := HY.out.2 j hlt
      have Hcx := Lib.hid ((HExt.out.trans (ext_drew _)).cell hcx)
      have Hcy := Lib.hid ((HExt.out.trans (ext_drew _)).cell hcy)
      have hbx := HGX.out j hlt
      have hby := HGY.out.2 j hlt
      have hw2 : IntKind.i64.wrap (nth x j + nth y j) = nth x j + nth y j := IntWalk.i64_in _ (by omega)
      have HP := Lib.hid (show (nth x j + nth y j) % p = plusN p x y 1 j by unfold plusN; rw [Int.one_mul])
      clear hcx hcy
      go_wp2_with (fail)
      refine wp_region_lex_tail 13 [(11, .val (.int .i64 (plusN p x y 1 j))), (12, .one (plusN p x y 1 j))] (by kernel_rfl) (by kernel_rfl) ?_
      simp only [List.take, List.drop]
      repeat' first | (refine LexW.pure (v := ?_) rfl rfl (fun w1 he => ?_) ?_; rotate_left; ( have e3 := he.cell Hcx.out; have e4 := he.cell Hcy.out; go_simp; rfl); simp only [Act.put, List.setIfInBounds_toArray, List.set_cons_zero, List.set_cons_succ]) | (refine LexW.call (f := ?_) (args := ?_) rfl rfl (fun w1 => ?_) (fun w1 he hdep => ?_) ?_; rotate_left 2; (go_simp; refine ⟨?_, ?_⟩ <;> rfl); ( rw [← HP.out]; exact s_mod _ _ _ (by omega) hp2); simp only [Act.put, List.setIfInBounds_toArray, List.set_cons_zero, List.set_cons_succ]) | ((refine LexW.rel rfl rfl (fun w1 he hdep => ?_) (fun v hv => ?_); ( exact ⟨.slice (some ⟨w1.heap.size, 0, none⟩) 1 1, w1.alloc (.cells #[.int .i64 (plusN p x y 1 j)] 2), (by go_simp), ext_alloc _ _, _, rfl, (by simp)⟩); simp only [Act.put, List.setIfInBounds_toArray, List.set_cons_zero, List.set_cons_succ]); obtain ⟨_, g9, rfl, _⟩ := hv)
      refine LexW.nil (fun w2 he hkn => ?_)
      obtain ⟨_, q9, r9⟩ : (SPred.one (plusN p x y 1 j)).holds (.slice (some ⟨g9, 0, none⟩) 1 1) w2 := hkn (12, _) (by simp)
      cases q9
      have G2 := Lib.hid ((ext_drew _).trans he)
      have R9 := Lib.hid r9
      clear he hkn r9
      go_wp2_with (at_builtin; refine wpList_push rfl (.tmp 16) (.tmp 28) rfl rfl rfl (v := plusN p x y 1 j) (HOwn.out.ext G2.out) ?hc ?hn ?hB ?hk)
      case hc => exact R9.out
      case hn => omega
      case hB => exact (HExt.out.trans G2.out).size'
      case hk =>
        intro g' cap' w3 ho3 hg3 he3
        have HO3 := Lib.hid ho3
        have HE3 := Lib.hid (he3 w (Nat.le_refl _) (HExt.out.trans G2.out))
        clear ho3 hg3 he3
        go_wp2_with (fail)
        go_roundw
        case rel => exact ⟨j + 1, g', cap', by omega, by go_num, rfl, by rw [plusL_succ]; exact HO3.out, HE3.out⟩
        case measure => simp [intOf]; omega
    · go_wp2_with (fail)
      go_ret
      obtain rfl : j = n := by omega
      exact ⟨g, rc, rfl, HOwn.out, HExt.out⟩
theorem scale_plus {p : Int} {x y : List Int} {n : Nat} : plusL p x (scaleL p y (p - 1) n) 1 n = plusL p x y (-1) n := by
  unfold plusL
  refine List.map_congr_left fun i hi => ?_
  have hi' : i < n := List.mem_range.1 hi
  unfold plusN
  rw [scaleL_nth hi', scaleN, Int.one_mul, Int.add_emod_emod, show nth y i * (p - 1) = -1 * nth y i + p * nth y i by rw [Int.mul_sub, Int.mul_comm p]; omega, ← Int.add_assoc, Int.add_mul_emod_self_left]
set_option maxHeartbeats 400000 in
theorem s_minus11 (p : Int) (ax ay : Option Addr) (n cx cy : Nat) (x y : List Int) (w : World) (hp1 : 3 ≤ p) (hp2 : p ≤ 1000) (hn : n ≤ 4194303) (hx : RdC w ax n x) (hy : RdC w ay n y) (hgx : ∀ i, i < n → 0 ≤ nth x i ∧ nth x i ≤ 1000) (hgy : Good p n y) :
    Calls Try.prog 57 #[.int .i64 p, .slice ax n cx, .slice ay n cy] w fun e w' => ∃ g rc, e = .returned (.slice (some ⟨g, 0, none⟩) n rc) ∧ OwnC w.heap.size w' (some ⟨g, 0, none⟩) n rc (plusL p x y (-1) n) ∧ Ext w w' := by
  have hw1 : IntKind.i64.wrap (p - 1) = p - 1 := IntWalk.i64_in _ (by omega)
  have HX := Lib.hid hx
  have HY := Lib.hid hy
  have HGX := Lib.hid hgx
  have HGY := Lib.hid hgy
  clear hx hy hgx hgy
  go_enter Try.func57, Try.ntmps57
  go_wp2_with (first | (go_at_call 58; refine (s_scale11 p ay n cy y (p - 1) _ hp1 hp2 (by omega) hn HY.out HGY.out).mono ?_; rintro e w1 ⟨g1, r1, rfl, ho1, x1⟩; have HO1 := Lib.hid ho1; have X1 := Lib.hid x1; clear ho1 x1) | (go_at_call 106; refine (s_add11 p ax _ n cx _ x (scaleL p y (p - 1) n) _ hp1 hp2 hn (HX.out.ext X1.out) HO1.out.rd HGX.out (scale_good (by omega))).mono ?_; rintro e w2 ⟨g2, r2, rfl, ho2, x2⟩; rw [scale_plus] at ho2; have HO2 := Lib.hid ho2; have X2 := Lib.hid x2; clear ho2 x2))
  go_ret
  exact ⟨g2, r2, rfl, HO2.out.mono X1.out.size, X1.out.trans X2.out⟩
end Go.Proofs.Ytcocbainookkcaa

/-
  Lists of lists, place by place.
  No condition.
-/
namespace Go.Proofs.Ytcocbainookkcaa
set_option maxRecDepth 100000
open Go.RowKit

theorem nthR_set {rows : List (List Int)} {i j : Nat} {v : List Int} (h : i < rows.length) : nthR (rows.set i v) j = if i = j then v else nthR rows j := by
  by_cases hij : i = j
  · subst hij; simp [nthR, h]
  · simp [nthR, hij]
theorem ext_rows {xs ys : List (List Int)} (h : xs.length = ys.length) (he : ∀ i, i < xs.length → nthR xs i = nthR ys i) : xs = ys := by
  apply List.ext_getElem h
  intro i h1 h2
  have := he i h1
  rwa [nthR_eq h1, nthR_eq h2] at this
theorem set_self {rows : List (List Int)} {j : Nat} : rows.set j (nthR rows j) = rows := by
  by_cases hj : j < rows.length
  · rw [nthR_eq hj, List.set_getElem_self]
  · exact List.set_eq_of_length_le (by omega)
theorem nthR_take {rows : List (List Int)} {k i : Nat} (h : i < k) : nthR (rows.take k) i = nthR rows i := by simp [nthR, h]
theorem nthR_snoc {rows : List (List Int)} {v : List Int} {i : Nat} (h : i < rows.length) : nthR (rows ++ [v]) i = nthR rows i := by simp [nthR, List.getElem?_append_left h]
theorem nthR_last {rows : List (List Int)} {v : List Int} : nthR (rows ++ [v]) rows.length = v := by simp [nthR]
theorem nthR_map {α : Type} {f : α → List Int} {xs : List α} {i : Nat} (h : i < xs.length) : nthR (xs.map f) i = f xs[i] := by simp [nthR, h]
theorem takeR_snoc (rows : List (List Int)) (k : Nat) (h : k < rows.length) : rows.take (k + 1) = rows.take k ++ [nthR rows k] := by
  rw [List.take_succ_eq_append_getElem h, nthR_eq h]

end Go.Proofs.Ytcocbainookkcaa

/-
  Rows of rows of the call's own, each row in a block of its own: read, extended, changed.
  No condition.
-/
namespace Go.Proofs.Ytcocbainookkcaa
set_option maxRecDepth 100000
open Go.RowKit

/-- An owned row of numbers, whose block is one of numbers, does not feel a change of another block. -/
theorem OwnC.grown {B : Nat} {w w' : World} {a : Option Addr} {n cap : Nat} {xs : List Int} {row : Option Nat} (h : OwnC B w a n cap xs) (hg : w.grownBy w' row) (hne : ∀ g, a = some ⟨g, 0, none⟩ → row ≠ some g) : OwnC B w' a n cap xs :=
  h.keep fun g ha => hg.block g (h.base_of g ha).2 (fun e => hne g ha e.symm)

/-- Slices in blocks of their own. -/
def Apart (vs : List Value) : Prop := ∀ (i j g n c n' c' : Nat), i ≠ j → vs[i]? = some (Value.slice (some ⟨g, 0, none⟩) n c) → vs[j]? ≠ some (Value.slice (some ⟨g, 0, none⟩) n' c')
theorem apart_nil : Apart [] := fun i j g n c n' c' _ h => by simp at h

/-- Rows of the call's own (from block B on), in a row of the call's own. -/
def OwnR (B : Nat) (w : World) (a : Option Addr) (n cap : Nat) (rows : List (List Int)) : Prop :=
  rows.length = n ∧ ∃ vs : List Value, w.ownsRow B 24 1 (.slice a n cap) n vs ∧ Apart vs ∧
    ∀ i, i < n → ∃ ai ci, vs[i]? = some (.slice ai (nthR rows i).length ci) ∧ OwnC B w ai (nthR rows i).length ci (nthR rows i)

theorem ownsRow_ext {B : Nat} {w w' : World} {e : TypeId} {v : Value} {n : Nat} {vs : List Value} (h : w.ownsRow B e 1 v n vs) (he : Ext w w') : w'.ownsRow B e 1 v n vs := by
  obtain ⟨h2, h3⟩ := h
  refine ⟨h2, ?_⟩
  rcases h3 with h3 | ⟨g, c, cur, hv, hb, hh, h5⟩
  · exact .inl h3
  · exact .inr ⟨g, c, cur, hv, hb, he.heap hh, h5⟩
theorem ownsRow_mono {B B' : Nat} {w : World} {e : TypeId} {v : Value} {n : Nat} {vs : List Value} (h : w.ownsRow B e 1 v n vs) (hb : B' ≤ B) : w.ownsRow B' e 1 v n vs := by
  obtain ⟨h2, h3⟩ := h
  refine ⟨h2, ?_⟩
  rcases h3 with h3 | ⟨g, c, cur, hv, hb1, h5⟩
  · exact .inl h3
  · exact .inr ⟨g, c, cur, hv, Nat.le_trans hb hb1, h5⟩

theorem OwnR.len {B : Nat} {w : World} {a : Option Addr} {n cap : Nat} {rows : List (List Int)} (h : OwnR B w a n cap rows) : rows.length = n := h.1
theorem OwnR.mono {B B' : Nat} {w : World} {a : Option Addr} {n cap : Nat} {rows : List (List Int)} (h : OwnR B w a n cap rows) (hb : B' ≤ B) : OwnR B' w a n cap rows := by
  obtain ⟨h1, vs, h2, h3, h4⟩ := h
  refine ⟨h1, vs, ownsRow_mono h2 hb, h3, fun i hi => ?_⟩
  obtain ⟨ai, ci, h5, h6⟩ := h4 i hi
  exact ⟨ai, ci, h5, h6.mono hb⟩
theorem OwnR.ext {B : Nat} {w w' : World} {a : Option Addr} {n cap : Nat} {rows : List (List Int)} (h : OwnR B w a n cap rows) (he : Ext w w') : OwnR B w' a n cap rows := by
  obtain ⟨h1, vs, h2, h3, h4⟩ := h
  refine ⟨h1, vs, ownsRow_ext h2 he, h3, fun i hi => ?_⟩
  obtain ⟨ai, ci, h5, h6⟩ := h4 i hi
  exact ⟨ai, ci, h5, h6.ext he⟩
theorem OwnR.nil (B : Nat) (w : World) : OwnR B w none 0 0 [] := ⟨rfl, [], World.ownsRow_nil _ _ _ _, apart_nil, fun i hi => by omega⟩
theorem OwnR.base_of {B : Nat} {w : World} {a : Option Addr} {n cap : Nat} {rows : List (List Int)} (h : OwnR B w a n cap rows) : ∀ g, a = some ⟨g, 0, none⟩ → B ≤ g ∧ g < w.heap.size := by
  rintro g rfl
  obtain ⟨_, vs, h2, _⟩ := h
  exact h2.lt g rfl

/-- The outer row, laid open. -/
theorem OwnR.row {B : Nat} {w : World} {a : Option Addr} {n cap : Nat} {rows : List (List Int)} (h : OwnR B w a n cap rows) (hn : 0 < n) :
    ∃ g cur, a = some ⟨g, 0, none⟩ ∧ B ≤ g ∧ g < w.heap.size ∧ w.heap[g]? = some (.cells cur 24 (0, 0)) ∧ ∀ i, i < n → ∃ ai ci, cur[i]? = some (.slice ai (nthR rows i).length ci) ∧ OwnC B w ai (nthR rows i).length ci (nthR rows i) := by
  obtain ⟨h1, vs, ⟨h2, h3⟩, _, h4⟩ := h
  rcases h3 with ⟨_, h3⟩ | ⟨g, c, cur, hv, hb, hh, hc1, hc2, hc3, hc4⟩
  · omega
  · simp only [Value.slice.injEq] at hv
    obtain ⟨rfl, _, rfl⟩ := hv
    have hlt : g < w.heap.size := by
      rcases Nat.lt_or_ge g w.heap.size with h | h
      · exact h
      · rw [Array.getElem?_eq_none h] at hh; cases hh
    refine ⟨g, cur, rfl, hb, hlt, hh, fun i hi => ?_⟩
    obtain ⟨ai, ci, h5, h6⟩ := h4 i hi
    refine ⟨ai, ci, ?_, h6⟩
    rw [← hc4, List.getElem?_take_of_lt (by omega), Array.getElem?_toList] at h5
    exact h5
theorem OwnR.rd {B : Nat} {w : World} {a : Option Addr} {n cap : Nat} {rows : List (List Int)} (h : OwnR B w a n cap rows) : RdR w a n rows := by
  refine ⟨h.1, fun i hi => ?_⟩
  obtain ⟨g, cur, ha, _, _, hh, hc⟩ := h.row (by omega)
  obtain ⟨ai, ci, h5, h6⟩ := hc i hi
  refine ⟨g, 0, ai, ci, ha, ?_, h6.rd⟩
  simp only [World.cell?, hh, Nat.zero_add]
  simpa using h5
/-- One row. -/
theorem OwnR.at {B : Nat} {w : World} {g n cap : Nat} {rows : List (List Int)} (h : OwnR B w (some ⟨g, 0, none⟩) n cap rows) {i : Nat} (hi : i < n) :
    ∃ ai ci, w.cell? ⟨g, i, none⟩ = some (.slice ai (nthR rows i).length ci) ∧ OwnC B w ai (nthR rows i).length ci (nthR rows i) := by
  obtain ⟨g', cur, ha, _, _, hh, hc⟩ := h.row (by omega)
  cases ha
  obtain ⟨ai, ci, h5, h6⟩ := hc i hi
  refine ⟨ai, ci, ?_, h6⟩
  simp only [World.cell?, hh]
  simpa using h5
theorem OwnR.frozen {B : Nat} {w : World} {g n cap : Nat} {rows : List (List Int)} (h : OwnR B w (some ⟨g, 0, none⟩) n cap rows) (j : Nat) : w.frozen? ⟨g, j, none⟩ = false := by
  obtain ⟨_, vs, h2, _⟩ := h
  exact h2.frozenAt j
theorem OwnR.blk {B : Nat} {w : World} {a : Option Addr} {n cap : Nat} {rows : List (List Int)} (h : OwnR B w a n cap rows) : ∀ k, (Value.slice a n cap).ownBlock = some k → B ≤ k := by
  intro k hk
  obtain ⟨_, vs, h2, _⟩ := h
  exact (h2.lt k hk).1
/-- The block of an owned row of numbers is not that of an owned row of rows. -/
theorem own_apart {B B' : Nat} {w : World} {v : Value} {b : Option Addr} {n m c : Nat} {vs : List Value} {xs : List Int} (h : w.ownsRow B 24 1 v n vs) (h' : OwnC B' w b m c xs) : ∀ g, b = some ⟨g, 0, none⟩ → v.ownBlock ≠ some g := by
  rintro g rfl hk
  obtain ⟨_, h3⟩ := h
  rcases h3 with ⟨h3, _⟩ | ⟨g1, c1, cur, hv, hb, hh, _⟩
  · rw [h3] at hk; simp [Value.ownBlock] at hk
  · rw [hv] at hk; simp only [Value.ownBlock, Option.some.injEq] at hk
    subst hk
    rcases h'.2.2 with ⟨h4, _⟩ | ⟨g2, c2, cur2, hv2, _, hh2, _⟩
    · cases h4
    · simp only [Value.slice.injEq, Option.some.injEq, Addr.mk.injEq] at hv2
      obtain ⟨⟨rfl, _⟩, _⟩ := hv2
      rw [hh] at hh2
      simp only [Option.some.injEq, Obj.cells.injEq] at hh2
      exact absurd hh2.2.1 (by decide)
theorem OwnC.setOuter {B B' : Nat} {w : World} {g n cap m c j : Nat} {vs : List Value} {b : Option Addr} {xs : List Int} (h : OwnC B w b m c xs) (ho : w.ownsRow B' 24 1 (.slice (some ⟨g, 0, none⟩) n cap) n vs) (v : Value) : OwnC B (w.setCell ⟨g, j, none⟩ v) b m c xs :=
  h.keep fun k hk => Below.heap_setCell _ _ _ _ (fun e => own_apart ho h k hk (by simp only [Value.ownBlock]; simp only at e; rw [e]))

/-- A store of a new row. -/
theorem OwnR.put {B : Nat} {w0 w : World} {g n cap : Nat} {rows : List (List Int)} {b : Option Addr} {m c : Nat} {xs : List Int} {j : Nat}
    (h : OwnR B w0 (some ⟨g, 0, none⟩) n cap rows) (he : Ext w0 w) (hB : B ≤ w0.heap.size) (hx : OwnC w0.heap.size w b m c xs) (hj : j < n) :
    OwnR B (w.setCell ⟨g, j, none⟩ (.slice b m c)) (some ⟨g, 0, none⟩) n cap (rows.set j xs) := by
  obtain ⟨h1, vs, h2, hap, h4⟩ := h
  have h2' := ownsRow_ext h2 he
  have hvl : vs.length = n := by have := h2.1; omega
  refine ⟨by simpa using h1, vs.set j (.slice b m c), (h2'.stored j _).1, ?_, fun i hi => ?_⟩
  · intro i k g' n1 c1 n2 c2 hik hi hk
    have old : ∀ l n3 c3, l < n → vs[l]? = some (.slice (some ⟨g', 0, none⟩) n3 c3) → g' < w0.heap.size := fun l n3 c3 hl e => by
      obtain ⟨ai, ci, h5, h6⟩ := h4 l hl
      rw [h5] at e
      simp only [Option.some.injEq, Value.slice.injEq] at e
      exact (h6.base_of g' e.1).2
    have lt : ∀ l n3 c3, (vs.set j (.slice b m c))[l]? = some (.slice (some ⟨g', 0, none⟩) n3 c3) → l < n := fun l n3 c3 e => by
      rcases Nat.lt_or_ge l n with h | h
      · exact h
      · rw [List.getElem?_eq_none (by simp; omega)] at e; cases e
    have li := lt _ _ _ hi
    have lk := lt _ _ _ hk
    by_cases hij : j = i
    · subst hij
      rw [List.getElem?_set_self (by omega)] at hi
      simp only [Option.some.injEq, Value.slice.injEq] at hi
      have := (hx.base_of g' hi.1).1
      rw [List.getElem?_set_ne hik] at hk
      have := old k _ _ lk hk
      omega
    · rw [List.getElem?_set_ne hij] at hi
      have h7 := old i _ _ li hi
      by_cases hjk : j = k
      · subst hjk
        rw [List.getElem?_set_self (by omega)] at hk
        simp only [Option.some.injEq, Value.slice.injEq] at hk
        have := (hx.base_of g' hk.1).1
        omega
      · rw [List.getElem?_set_ne hjk] at hk
        exact hap i k g' _ _ _ _ hik hi hk
  · rw [nthR_set (by omega)]
    by_cases hij : j = i
    · subst hij
      rw [if_pos rfl, List.getElem?_set_self (by omega)]
      exact ⟨b, c, by rw [hx.1], by rw [hx.1]; exact (hx.mono hB).setOuter h2' _⟩
    · rw [if_neg hij, List.getElem?_set_ne hij]
      obtain ⟨ai, ci, h5, h6⟩ := h4 i hi
      exact ⟨ai, ci, h5, (h6.ext he).setOuter h2' _⟩

/-- Two rows are exchanged. -/
theorem OwnR.swap {B : Nat} {w : World} {g n cap : Nat} {rows : List (List Int)} {i j : Nat} (h : OwnR B w (some ⟨g, 0, none⟩) n cap rows) (hi : i < n) (hj : j < n) :
    ∃ ai ci aj cj, w.cell? ⟨g, i, none⟩ = some (.slice ai (nthR rows i).length ci) ∧ w.cell? ⟨g, j, none⟩ = some (.slice aj (nthR rows j).length cj) ∧
      OwnC B w ai (nthR rows i).length ci (nthR rows i) ∧ OwnC B w aj (nthR rows j).length cj (nthR rows j) ∧
      OwnR B ((w.setCell ⟨g, i, none⟩ (.slice aj (nthR rows j).length cj)).setCell ⟨g, j, none⟩ (.slice ai (nthR rows i).length ci)) (some ⟨g, 0, none⟩) n cap ((rows.set i (nthR rows j)).set j (nthR rows i)) := by
  obtain ⟨ai, ci, hci, hoi⟩ := h.at hi
  obtain ⟨aj, cj, hcj, hoj⟩ := h.at hj
  refine ⟨ai, ci, aj, cj, hci, hcj, hoi, hoj, ?_⟩
  obtain ⟨h1, vs, h2, hap, h4⟩ := h
  have hvl : vs.length = n := by have := h2.1; omega
  have vi : vs[i]? = some (.slice ai (nthR rows i).length ci) := by rw [← h2.cellAt i (by omega)]; exact hci
  have vj : vs[j]? = some (.slice aj (nthR rows j).length cj) := by rw [← h2.cellAt j (by omega)]; exact hcj
  have h3 := (h2.stored i (.slice aj (nthR rows j).length cj)).1
  have h5 := (h3.stored j (.slice ai (nthR rows i).length ci)).1
  have get : ∀ k, k < n → ((vs.set i (.slice aj (nthR rows j).length cj)).set j (.slice ai (nthR rows i).length ci))[k]? = vs[if k = j then i else if k = i then j else k]? := fun k hk => by
    by_cases hkj : k = j
    · subst hkj; rw [List.getElem?_set_self (by simp; omega), if_pos rfl, vi]
    · rw [List.getElem?_set_ne (Ne.symm hkj), if_neg hkj]
      by_cases hki : k = i
      · subst hki; rw [List.getElem?_set_self (by omega), if_pos rfl, vj]
      · rw [List.getElem?_set_ne (Ne.symm hki), if_neg hki]
  refine ⟨by simpa using h1, _, h5, ?_, fun k hk => ?_⟩
  · intro k l g' n1 c1 n2 c2 hkl hk hl
    have lt : ∀ l n3 c3, ((vs.set i (.slice aj (nthR rows j).length cj)).set j (.slice ai (nthR rows i).length ci))[l]? = some (.slice (some ⟨g', 0, none⟩) n3 c3) → l < n := fun l n3 c3 e => by
      rcases Nat.lt_or_ge l n with h | h
      · exact h
      · rw [List.getElem?_eq_none (by simp; omega)] at e; cases e
    have hk' := lt _ _ _ hk
    have hl' := lt _ _ _ hl
    rw [get k hk'] at hk
    rw [get l hl'] at hl
    refine hap _ _ g' _ _ _ _ ?_ hk hl
    split <;> split <;> (try split) <;> (try split) <;> omega
  · rw [get k hk]
    have e : nthR ((rows.set i (nthR rows j)).set j (nthR rows i)) k = nthR rows (if k = j then i else if k = i then j else k) := by
      rw [nthR_set (by simp; omega)]
      by_cases hkj : k = j
      · subst hkj; simp
      · rw [if_neg (Ne.symm hkj), nthR_set (by omega), if_neg hkj]
        by_cases hki : k = i
        · subst hki; simp
        · rw [if_neg (Ne.symm hki), if_neg hki]
    rw [e]
    obtain ⟨al, cl, h6, h7⟩ := h4 (if k = j then i else if k = i then j else k) (by split <;> (try split) <;> omega)
    exact ⟨al, cl, h6, (h7.setOuter h2 _).setOuter h3 _⟩

/-- The first rows. -/
theorem OwnR.take {B : Nat} {w : World} {a : Option Addr} {n cap : Nat} {rows : List (List Int)} (h : OwnR B w a n cap rows) {k : Nat} (hk : k ≤ n) : OwnR B w a k cap (rows.take k) := by
  obtain ⟨h1, vs, ⟨h2, h3⟩, hap, h4⟩ := h
  refine ⟨by simp; omega, vs.take k, ⟨by simp; omega, ?_⟩, ?_, fun i hi => ?_⟩
  · rcases h3 with ⟨h3, h5⟩ | ⟨g, c, cur, hv, hb, hh, hc1, hc2, hc3, hc4⟩
    · simp only [Value.slice.injEq] at h3
      obtain ⟨rfl, rfl, rfl⟩ := h3
      exact .inl ⟨by rw [show k = 0 by omega], by omega⟩
    · simp only [Value.slice.injEq] at hv
      obtain ⟨rfl, _, rfl⟩ := hv
      refine .inr ⟨g, cap, cur, rfl, hb, hh, by omega, hc2, hc3, ?_⟩
      rw [← hc4, List.take_take, Nat.mul_one, Nat.mul_one, Nat.min_eq_left hk]
  · intro i j g n1 c1 n2 c2 hij hi hj
    rw [List.getElem?_take] at hi hj
    split at hi
    · split at hj
      · exact hap i j g _ _ _ _ hij hi hj
      · cases hj
    · cases hi
  · obtain ⟨ai, ci, h5, h6⟩ := h4 i (by omega)
    have e : nthR (rows.take k) i = nthR rows i := by simp [nthR, hi]
    rw [e]
    exact ⟨ai, ci, by rw [List.getElem?_take_of_lt hi]; exact h5, h6⟩

/-- append of one new row. -/
theorem run_pushR {B : Nat} {w0 w : World} {ra : Option Addr} {n cap : Nat} {rows : List (List Int)} {b : Option Addr} {m c : Nat} {xs : List Int} {g : Nat} (hown : OwnR B w0 ra n cap rows) (he : Ext w0 w) (hc : w.cell? ⟨g, 0, none⟩ = some (.slice b m c)) (hx : OwnC w0.heap.size w b m c xs) (hn : n ≤ 4194304) (hB : B ≤ w0.heap.size) (ty : TypeId) :
    ∃ g' cap' w', (Builtin.append_ #[63, 63] ty #[.slice ra n cap, .slice (some ⟨g, 0, none⟩) 1 1]).run Try.prog w = .ok (.slice (some ⟨g', 0, none⟩) (n + 1) cap') w' ∧
      OwnR B w' (some ⟨g', 0, none⟩) (n + 1) cap' (rows ++ [xs]) ∧ w.grownBy w' (Value.slice ra n cap).ownBlock ∧ (∀ W : World, W.heap.size ≤ B → Ext W w → Ext W w') := by
  obtain ⟨i0, hi, hz0, hz1, hz2⟩ := info_parts Try.infoR
  have hown0 := hown
  obtain ⟨h1, vs, h2, hap, h4⟩ := hown
  have h2' := ownsRow_ext h2 he
  have hvl : vs.length = n := by have := h2.1; omega
  obtain ⟨v', w', hr, h5, h6, _⟩ := run_append_own (P := Try.prog) w B 63 ty 24 i0 (.slice none 0 0) 1 24 Try.underlying63 hi hz0 hz1 hz2 rfl (by decide) (.slice ra n cap) n vs h2'
    ⟨g, 0, none⟩ 1 1 [.slice b m c] rfl (fun j u hj => by
      cases j with
      | zero => simp only [List.getElem?_cons_zero, Option.some.injEq] at hj; subst hj; simpa [Addr.add] using hc
      | succ j => simp at hj) (fun u hu => by simp only [List.mem_singleton] at hu; subst hu; rfl) (by unfold maxLen; omega) (by omega) (Nat.le_trans hB he.size)
  have form : ∃ g cap, v' = .slice (some ⟨g, 0, none⟩) (n + 1) cap := by
    rcases h5.2 with ⟨_, h3⟩ | ⟨g, c, cur, hv, _⟩
    · omega
    · exact ⟨g, c, hv⟩
  obtain ⟨g', cap', rfl⟩ := form
  refine ⟨g', cap', w', hr, ⟨by simp [h1], vs ++ [.slice b m c], h5, ?_, fun i hin => ?_⟩, h6, fun W hW hE => hE.grown h6 fun k hk => Nat.le_trans hW (hown0.blk k hk)⟩
  · intro i k g1 n1 c1 n2 c2 hik hi hk
    have old : ∀ l n3 c3, l < n → vs[l]? = some (.slice (some ⟨g1, 0, none⟩) n3 c3) → g1 < w0.heap.size := fun l n3 c3 hl e => by
      obtain ⟨ai, ci, h5, h6⟩ := h4 l hl
      rw [h5] at e
      simp only [Option.some.injEq, Value.slice.injEq] at e
      exact (h6.base_of g1 e.1).2
    have new : (some (Value.slice b m c)) = some (.slice (some ⟨g1, 0, none⟩) n1 c1) ∨ (some (Value.slice b m c)) = some (.slice (some ⟨g1, 0, none⟩) n2 c2) → w0.heap.size ≤ g1 := fun e => by
      rcases e with e | e
      all_goals
        simp only [Option.some.injEq, Value.slice.injEq] at e
        exact (hx.base_of g1 e.1).1
    rcases Nat.lt_trichotomy i n with li | li | li
    · rw [List.getElem?_append_left (by omega)] at hi
      rcases Nat.lt_trichotomy k n with lk | lk | lk
      · rw [List.getElem?_append_left (by omega)] at hk
        exact hap i k g1 _ _ _ _ hik hi hk
      · rw [lk, ← hvl, List.getElem?_concat_length] at hk
        have := new (.inr hk); have := old i _ _ li hi; omega
      · rw [List.getElem?_eq_none (by simp; omega)] at hk; cases hk
    · rw [li, ← hvl, List.getElem?_concat_length] at hi
      rcases Nat.lt_trichotomy k n with lk | lk | lk
      · rw [List.getElem?_append_left (by omega)] at hk
        have := new (.inl hi); have := old k _ _ lk hk; omega
      · omega
      · rw [List.getElem?_eq_none (by simp; omega)] at hk; cases hk
    · rw [List.getElem?_eq_none (by simp; omega)] at hi; cases hi
  · by_cases hlt : i < n
    · obtain ⟨ai, ci, h7, h8⟩ := h4 i hlt
      have e : nthR (rows ++ [xs]) i = nthR rows i := by simp [nthR, List.getElem?_append_left (show i < rows.length by omega)]
      rw [e]
      exact ⟨ai, ci, by rw [List.getElem?_append_left (by omega)]; exact h7, (h8.ext he).grown h6 (own_apart h2' (h8.ext he))⟩
    · obtain rfl : i = n := by omega
      have e : nthR (rows ++ [xs]) i = xs := by simp [nthR, ← h1]
      rw [e, hx.1]
      exact ⟨b, c, by rw [← hvl]; simp, (hx.mono hB).grown h6 (own_apart h2' hx)⟩

theorem wpList_pushR {ops : Array Oper} {rest : List Oper} {o : Oper} {a : Act} {Q : Exit → Act → World → Prop} {w0 w : World} (hgd : o.guard = none) (s x : Operand)
    (ho : o.op = .call { callee := .builtin .append, args := #[s, x], argTypes := #[63, 63] })
    {B : Nat} {ra : Option Addr} {n cap : Nat} {rows : List (List Int)} {b : Option Addr} {m c : Nat} {xs : List Int} {g : Nat} (hs : a.eval s = .slice ra n cap) (hx : a.eval x = .slice (some ⟨g, 0, none⟩) 1 1)
    (hown : OwnR B w0 ra n cap rows) (he : Ext w0 w) (hxs : OwnC w0.heap.size w b m c xs) (hc : w.cell? ⟨g, 0, none⟩ = some (.slice b m c)) (hn : n ≤ 4194304) (hB : B ≤ w0.heap.size)
    (h : ∀ g' cap' w', OwnR B w' (some ⟨g', 0, none⟩) (n + 1) cap' (rows ++ [xs]) → w.grownBy w' (Value.slice ra n cap).ownBlock → (∀ W : World, W.heap.size ≤ B → Ext W w → Ext W w') →
      wpList Try.prog ops Q rest (a.put o.dst (.slice (some ⟨g', 0, none⟩) (n + 1) cap')) w') : wpList Try.prog ops Q (o :: rest) a w := by
  refine wpList_plain hgd fun K hK => ?_
  obtain ⟨g', cap', w', hr, h1, h2, h3⟩ := run_pushR hown he hc hxs hn hB o.type
  unfold Oper.wp execOp
  simp only [ho, resolve, invoke, builtin, Sem.run_bind, Sem.run_pure, Result.andThen_ok, List.map_toArray, List.map_cons, List.map_nil, hs, hx, hr]
  exact hK _ _ (h g' cap' w' h1 h2 h3)

theorem ownR_empty (w : World) : OwnR w.heap.size (w.alloc (.cells #[] 24)) (some ⟨w.heap.size, 0, none⟩) 0 0 [] := by
  refine ⟨rfl, [], ⟨rfl, .inr ⟨w.heap.size, 0, #[], rfl, Nat.le_refl _, heap_alloc_new w _, Nat.le_refl _, by unfold maxLen; omega, by simp, by simp⟩⟩, apart_nil, fun i hi => by omega⟩

/-- New empty rows. -/
theorem make_rows (w : World) (n : Nat) (hn : n ≤ 4194304) :
    ∃ w', (Instr.makeSlice 63 (.int .i64 (n : Int)) (.int .i64 (n : Int))).run Try.prog w = .ok (.slice (some ⟨w.heap.size, 0, none⟩) n n) w' ∧
      OwnR w.heap.size w' (some ⟨w.heap.size, 0, none⟩) n n (List.replicate n []) ∧ Ext w w' := by
  obtain ⟨i0, hi, hz0, hz1, hz2⟩ := info_parts Try.infoR
  obtain ⟨w', h1, h2, h3⟩ := run_make_full (P := Try.prog) w w.heap.size 63 24 i0 (.slice none 0 0) 1 Try.underlying63 hi hz0 hz1 .i64 .i64 n (by rw [hz2]; omega) (by unfold maxLen; omega) (Nat.le_refl _)
  have e1 : (madeCells (Value.slice none 0 0).cells (n * 1)).toList = List.replicate n (Value.slice none 0 0) := by
    rw [Nat.mul_one]; exact toList_madeCells_one _ _
  rw [e1] at h2
  refine ⟨w', h1, ⟨by simp, _, h2, ?_, fun i hi => ?_⟩, (Ext.refl w).grown h3 (fun k hk => by cases hk)⟩
  · intro i j g n1 c1 n2 c2 _ h
    have := List.mem_of_getElem? h
    simp at this
  · have e : nthR (List.replicate n []) i = [] := by simp [nthR, hi]
    rw [e]
    exact ⟨none, 0, by simp [hi], own_nil _ _⟩

end Go.Proofs.Ytcocbainookkcaa

/-
  Contracts: copies of rows, transposed rows, unit rows, in the program and in the reference.
  No condition.
-/
namespace Go.Proofs.Ytcocbainookkcaa
set_option maxRecDepth 100000
open Go.RowKit

theorem RdC.addr {w : World} {a : Option Addr} {n : Nat} {xs : List Int} (h : RdC w a n xs) (hn : 0 < n) : ∃ b off, a = some ⟨b, off, none⟩ := by
  obtain ⟨b, off, ha, _⟩ := h.2 0 hn
  exact ⟨b, off, ha⟩

theorem cell_new (w : World) (z : Nat) (hz : z = w.heap.size) (v : Value) (t : TypeId) : (w.alloc (.cells #[v] t)).cell? ⟨z, 0, none⟩ = some v := by subst hz; simp



/-! ### Transposed rows -/
def colL (rows : List (List Int)) (k n : Nat) : List Int := (List.range n).map fun i => nth (nthR rows i) k
theorem colL_succ (rows : List (List Int)) (k n : Nat) : colL rows k (n + 1) = colL rows k n ++ [nth (nthR rows n) k] := by simp [colL, List.range_succ]
theorem colL_len (rows : List (List Int)) (k n : Nat) : (colL rows k n).length = n := by simp [colL]
theorem colL_nth {rows : List (List Int)} {k n i : Nat} (h : i < n) : nth (colL rows k n) i = nth (nthR rows i) k := by
  unfold colL; rw [nth_map (by simpa using h)]; simp
/-- The first m columns of n rows. -/
def turnL (rows : List (List Int)) (n m : Nat) : List (List Int) := (List.range m).map fun k => colL rows k n
theorem turnL_succ (rows : List (List Int)) (n m : Nat) : turnL rows n (m + 1) = turnL rows n m ++ [colL rows m n] := by simp [turnL, List.range_succ]
theorem turnL_len (rows : List (List Int)) (n m : Nat) : (turnL rows n m).length = m := by simp [turnL]
theorem turnL_nth {rows : List (List Int)} {n m k : Nat} (h : k < m) : nthR (turnL rows n m) k = colL rows k n := by
  unfold turnL; rw [nthR_map (by simpa using h)]; simp



/-! ### Unit rows -/
def unitL (n k : Nat) : List (List Int) := (List.range k).map fun i => bladeL n i
theorem unitL_succ (n k : Nat) : unitL n (k + 1) = unitL n k ++ [bladeL n k] := by simp [unitL, List.range_succ]
theorem unitL_len (n k : Nat) : (unitL n k).length = k := by simp [unitL]
theorem unitL_nth {n k i : Nat} (h : i < k) : nthR (unitL n k) i = bladeL n i := by
  unfold unitL; rw [nthR_map (by simpa using h)]; simp
set_option maxHeartbeats 1000000 in
theorem c_unit (n : Nat) (w : World) (hl : n ≤ 1048576) :
    Calls Try.prog 132 #[.int .i64 n] w fun e w' => ∃ g rc, e = .returned (.slice (some ⟨g, 0, none⟩) n rc) ∧ OwnR w.heap.size w' (some ⟨g, 0, none⟩) n rc (unitL n n) ∧ Ext w w' := by
  go_enter Try.func132, Try.ntmps132
  go_wp2_with (fail)
  go_loopw [3, 8] (fun v i wr => ∃ (k g rc : Nat), k ≤ n ∧ i = .int .i64 k ∧ v = .slice (some ⟨g, 0, none⟩) k rc ∧ OwnR w.heap.size wr (some ⟨g, 0, none⟩) k rc (unitL n k) ∧ Ext w wr) (fun _ i _ => n - (intOf i).toNat)
  case atStart => exact ⟨0, _, _, Nat.zero_le _, rfl, rfl, ownR_empty w, ext_alloc _ _⟩
  case round =>
    obtain ⟨k, g, rc, hk, rfl, rfl, hown, hext⟩ := hrel
    have HOwn := Lib.hid hown
    have HExt := Lib.hid hext
    clear hown hext
    by_cases hlt : k < n
    · obtain ⟨w0, hmk, hown0, hext0⟩ := make_ints wr n (by omega)
      obtain ⟨g0, hg0⟩ : ∃ g, g = wr.heap.size := ⟨_, rfl⟩
      rw [← hg0] at hmk hown0
      have HG0 := Lib.hid hg0
      have hge : wr.heap.size ≤ g0 := by omega
      have HO0 := Lib.hid hown0
      have HE0 := Lib.hid hext0
      have hcg := hown0.cell hlt
      have hfz := hown0.frozen k
      clear hown0 hext0 hg0
      go_wp2_with (at_builtin; refine wpList_pushR (w0 := wr) rfl (.tmp 16) (.tmp 18) rfl rfl rfl HOwn.out ((HE0.out.setCell hge _).trans (ext_alloc _ _)) (xs := bladeL n k) (((HO0.out.store hlt 1).mono hge).ext (ext_alloc _ _)) ?hc (by omega) HExt.out.size ?hk)
      case hc => exact cell_new _ _ (by simp) _ _
      case hk =>
        intro g' cap' w3 ho3 hg3 he3
        have HO3 := Lib.hid ho3
        have HE3 := Lib.hid (he3 w (Nat.le_refl _) ((HExt.out.trans (HE0.out.setCell hge _)).alloc _))
        clear ho3 hg3 he3
        go_wp2_with (fail)
        go_roundw
        case rel => exact ⟨k + 1, g', cap', by omega, by go_num, rfl, by rw [unitL_succ]; exact HO3.out, HE3.out⟩
        case measure => simp [intOf]; omega
    · go_wp2_with (fail)
      go_ret
      obtain rfl : k = n := by omega
      exact ⟨g, rc, rfl, HOwn.out, HExt.out⟩
end Go.Proofs.Ytcocbainookkcaa

/-
  Reduced bases of lists of numbers, in plain words: columns one after another, a row with a number other than 0 there is brought up, divided, and taken from all others.
  No condition.
-/
namespace Go.Proofs.Ytcocbainookkcaa
set_option maxRecDepth 100000
open Go.RowKit

/-- All rows have m numbers. -/
def RowsG (p : Int) (m : Nat) (rows : List (List Int)) : Prop := ∀ i, i < rows.length → Good p m (nthR rows i)
theorem RowsG.set {p : Int} {m : Nat} {rows : List (List Int)} (h : RowsG p m rows) {j : Nat} {v : List Int} (hv : Good p m v) : RowsG p m (rows.set j v) := by
  intro i hi
  rw [List.length_set] at hi
  by_cases hj : j < rows.length
  · rw [nthR_set hj]
    split
    · exact hv
    · exact h i hi
  · rw [List.set_eq_of_length_le (by omega)]; exact h i hi
theorem plus_zero {p : Int} {m : Nat} {x y : List Int} (hx : Good p m x) : plusL p x y 0 m = x := by
  refine ext_nth (by rw [plusL_len, hx.1]) fun i hi => ?_
  rw [plusL_len] at hi
  rw [plusL_nth hi]
  unfold plusN
  rw [Int.zero_mul, Int.add_zero, Int.emod_eq_of_lt (hx.2 i hi).1 (hx.2 i hi).2]
theorem plus_mod {p k k' : Int} {m : Nat} {x y : List Int} (h : k % p = k' % p) : plusL p x y k m = plusL p x y k' m := by
  unfold plusL
  refine List.map_congr_left fun i _ => ?_
  unfold plusN
  rw [Int.add_emod, Int.mul_emod, h, ← Int.mul_emod, ← Int.add_emod]

/-- The first row from number d on whose number k is not 0, or the number of rows. -/
def pivG (rows : List (List Int)) (k d : Nat) : Nat := match (List.range rows.length).find? (fun i => decide (d ≤ i) && nth (nthR rows i) k != 0) with | some i => i | none => rows.length
theorem pivG_eq {rows : List (List Int)} {k d i : Nat} (hdi : d ≤ i) (hi : i ≤ rows.length) (hz : ∀ j, d ≤ j → j < i → nth (nthR rows j) k = 0) (he : i = rows.length ∨ nth (nthR rows i) k ≠ 0) : pivG rows k d = i := by
  unfold pivG
  by_cases hl : i < rows.length
  · have hne : nth (nthR rows i) k ≠ 0 := by rcases he with h | h; omega; exact h
    have : (List.range rows.length).find? (fun i => decide (d ≤ i) && nth (nthR rows i) k != 0) = some i := by
      rw [List.find?_range_eq_some]
      refine ⟨by simp [hdi, hne], by simpa using hl, fun j hj => ?_⟩
      by_cases hd : d ≤ j
      · simp [hz j hd hj]
      · simp [hd]
    rw [this]
  · have : (List.range rows.length).find? (fun i => decide (d ≤ i) && nth (nthR rows i) k != 0) = none := by
      rw [List.find?_range_eq_none]
      intro j hj
      by_cases hd : d ≤ j
      · simp [hz j hd (by omega)]
      · simp [hd]
    rw [this]
    show rows.length = i
    omega
theorem pivG_spec (rows : List (List Int)) (k d : Nat) (hd : d ≤ rows.length) : d ≤ pivG rows k d ∧ pivG rows k d ≤ rows.length ∧ (∀ j, d ≤ j → j < pivG rows k d → nth (nthR rows j) k = 0) ∧ (pivG rows k d = rows.length ∨ nth (nthR rows (pivG rows k d)) k ≠ 0) := by
  unfold pivG
  split
  · rename_i i h
    rw [List.find?_range_eq_some] at h
    obtain ⟨h1, h2, h3⟩ := h
    simp only [Bool.and_eq_true, decide_eq_true_eq, bne_iff_ne, ne_eq] at h1
    have h2' : i < rows.length := by simpa using h2
    refine ⟨h1.1, by omega, fun j hj hji => ?_, .inr h1.2⟩
    have := h3 j hji
    simpa [hj] using this
  · rename_i h
    rw [List.find?_range_eq_none] at h
    refine ⟨hd, Nat.le_refl _, fun j hj hjl => ?_, .inl rfl⟩
    have := h j hjl
    simpa [hj] using this

/-- Row d, times a number, is added to the first rows, such that their numbers k become 0. -/
def clrS (p : Int) (k m d : Nat) (rows : List (List Int)) : Nat → List (List Int)
  | 0 => rows
  | r + 1 => if r = d then clrS p k m d rows r else (clrS p k m d rows r).set r (plusL p (nthR (clrS p k m d rows r) r) (nthR (clrS p k m d rows r) d) (-(nth (nthR (clrS p k m d rows r) r) k)) m)
theorem clrS_len {p : Int} {k m d : Nat} {rows : List (List Int)} : ∀ r, (clrS p k m d rows r).length = rows.length
  | 0 => rfl
  | r + 1 => by unfold clrS; split; exact clrS_len r; rw [List.length_set]; exact clrS_len r
theorem clrS_good {p : Int} {k m d : Nat} {rows : List (List Int)} (hp : 1 ≤ p) (h : RowsG p m rows) : ∀ r, RowsG p m (clrS p k m d rows r)
  | 0 => h
  | r + 1 => by unfold clrS; split; exact clrS_good hp h r; exact (clrS_good hp h r).set (plus_good hp)
theorem clrS_nth {p : Int} {k m d : Nat} {rows : List (List Int)} : ∀ r, r ≤ rows.length → ∀ j, nthR (clrS p k m d rows r) j = if j < r ∧ j ≠ d then plusL p (nthR rows j) (nthR rows d) (-(nth (nthR rows j) k)) m else nthR rows j
  | 0, _, j => by rw [if_neg (by omega)]; rfl
  | r + 1, hr, j => by
    have ih := clrS_nth r (by omega) (p := p) (k := k) (m := m) (d := d) (rows := rows)
    unfold clrS
    by_cases hd : r = d
    · rw [if_pos hd, ih j]
      by_cases hj : j < r ∧ j ≠ d
      · rw [if_pos hj, if_pos (by omega)]
      · rw [if_neg hj, if_neg (by omega)]
    · have e1 : nthR (clrS p k m d rows r) r = nthR rows r := by rw [ih r, if_neg (by omega)]
      have e2 : nthR (clrS p k m d rows r) d = nthR rows d := by rw [ih d, if_neg (by omega)]
      rw [if_neg hd, nthR_set (by rw [clrS_len]; omega), e1, e2]
      by_cases hj : r = j
      · subst hj; rw [if_pos rfl, if_pos (by omega)]
      · rw [if_neg hj, ih j]
        by_cases hj' : j < r ∧ j ≠ d
        · rw [if_pos hj', if_pos (by omega)]
        · rw [if_neg hj', if_neg (by omega)]
theorem clrS_self {p : Int} {k m d : Nat} {rows : List (List Int)} {r : Nat} (h : r = d) : clrS p k m d rows (r + 1) = clrS p k m d rows r := by rw [clrS, if_pos h]
theorem clrS_ne {p : Int} {k m d : Nat} {rows : List (List Int)} {r : Nat} (h : ¬ r = d) : clrS p k m d rows (r + 1) = (clrS p k m d rows r).set r (plusL p (nthR (clrS p k m d rows r) r) (nthR (clrS p k m d rows r) d) (-(nth (nthR (clrS p k m d rows r) r) k)) m) := by rw [clrS, if_neg h]
theorem clrS_zero {p : Int} {k m d : Nat} {rows : List (List Int)} {r : Nat} (hp : 1 ≤ p) (h : RowsG p m rows) (hr : r < rows.length) (hz : nth (nthR (clrS p k m d rows r) r) k = 0) : clrS p k m d rows (r + 1) = clrS p k m d rows r := by
  by_cases hd : r = d
  · exact clrS_self hd
  · rw [clrS_ne hd, hz, Int.neg_zero, plus_zero (clrS_good hp h r r (by rw [clrS_len]; exact hr)), set_self]

def swapL (rows : List (List Int)) (i j : Nat) : List (List Int) := (rows.set i (nthR rows j)).set j (nthR rows i)
theorem swapL_len {rows : List (List Int)} {i j : Nat} : (swapL rows i j).length = rows.length := by simp [swapL]
theorem swapL_nth {rows : List (List Int)} {i j k : Nat} (hi : i < rows.length) (hj : j < rows.length) : nthR (swapL rows i j) k = if k = j then nthR rows i else if k = i then nthR rows j else nthR rows k := by
  unfold swapL
  rw [nthR_set (by simpa using hj)]
  by_cases hkj : j = k
  · subst hkj; simp
  · rw [if_neg hkj, if_neg (Ne.symm hkj), nthR_set hi]
    by_cases hki : i = k
    · subst hki; simp
    · rw [if_neg hki, if_neg (Ne.symm hki)]
theorem swapL_good {p : Int} {m : Nat} {rows : List (List Int)} (h : RowsG p m rows) {i j : Nat} (hi : i < rows.length) (hj : j < rows.length) : RowsG p m (swapL rows i j) := by
  intro k hk
  rw [swapL_len] at hk
  rw [swapL_nth hi hj]
  split
  · exact h i hi
  · split
    · exact h j hj
    · exact h k hk

/-- The rows with row i brought up to place d and divided by its number k. -/
def upG (p : Int) (m : Nat) (rows : List (List Int)) (d k i : Nat) : List (List Int) := (swapL rows d i).set d (scaleL p (nthR rows i) (invN p (nth (nthR rows i) k)) m)
theorem upG_len {p : Int} {m : Nat} {rows : List (List Int)} {d k i : Nat} : (upG p m rows d k i).length = rows.length := by simp [upG, swapL_len]
theorem upG_good {p : Int} {m : Nat} {rows : List (List Int)} {d k i : Nat} (hp : 1 ≤ p) (h : RowsG p m rows) (hd : d < rows.length) (hi : i < rows.length) : RowsG p m (upG p m rows d k i) := (swapL_good h hd hi).set (scale_good hp)
theorem upG_nth {p : Int} {m : Nat} {rows : List (List Int)} {d k i j : Nat} (hd : d < rows.length) (hi : i < rows.length) : nthR (upG p m rows d k i) j = if j = d then scaleL p (nthR rows i) (invN p (nth (nthR rows i) k)) m else if j = i then nthR rows d else nthR rows j := by
  unfold upG
  rw [nthR_set (by rw [swapL_len]; exact hd)]
  by_cases hj : d = j
  · subst hj; simp
  · rw [if_neg hj, if_neg (Ne.symm hj), swapL_nth hd hi]
    by_cases hji : j = i
    · rw [if_pos hji, if_pos hji]
    · rw [if_neg hji, if_neg hji, if_neg (Ne.symm hj)]
def stepG (p : Int) (m : Nat) (s : List (List Int) × Nat) (k : Nat) : List (List Int) × Nat :=
  if pivG s.1 k s.2 = s.1.length then s else (clrS p k m s.2 (upG p m s.1 s.2 k (pivG s.1 k s.2)) s.1.length, s.2 + 1)
def gaussS (p : Int) (m : Nat) (rows : List (List Int)) : Nat → List (List Int) × Nat
  | 0 => (rows, 0)
  | k + 1 => stepG p m (gaussS p m rows k) k
def basisL (p : Int) (m : Nat) (rows : List (List Int)) : List (List Int) := (gaussS p m rows m).1.take (gaussS p m rows m).2

theorem stepG_no {p : Int} {m : Nat} {s : List (List Int) × Nat} {k : Nat} (h : pivG s.1 k s.2 = s.1.length) : stepG p m s k = s := by rw [stepG, if_pos h]
theorem stepG_yes {p : Int} {m : Nat} {s : List (List Int) × Nat} {k i : Nat} (h : pivG s.1 k s.2 = i) (hi : i < s.1.length) : stepG p m s k = (clrS p k m s.2 (upG p m s.1 s.2 k i) s.1.length, s.2 + 1) := by
  rw [stepG, h, if_neg (by omega)]

/-- What holds of the rows when k columns are done: d rows have a 1 at a place of their own, where all other rows have 0. -/
structure Red (rows : List (List Int)) (d k : Nat) (c : Nat → Nat) : Prop where
  dle : d ≤ rows.length
  dk : d ≤ k
  clt : ∀ i, i < d → c i < k
  mono : ∀ i j, i < j → j < d → c i < c j
  one : ∀ i, i < d → ∀ j, j < rows.length → nth (nthR rows j) (c i) = if j = i then 1 else 0
  lead : ∀ i, i < d → ∀ t, t < c i → nth (nthR rows i) t = 0
  rest : ∀ i, d ≤ i → i < rows.length → ∀ t, t < k → nth (nthR rows i) t = 0

theorem Red.step {p : Int} {m : Nat} {rows : List (List Int)} {d k : Nat} {c : Nat → Nat} (hp : primeB p = true) (hk : k < m) (hg : RowsG p m rows) (h : Red rows d k c) :
    ∃ c', Red (stepG p m (rows, d) k).1 (stepG p m (rows, d) k).2 (k + 1) c' := by
  have hpb := prime_bd hp
  obtain ⟨h1, h2, h3, h4⟩ := pivG_spec rows k d h.dle
  by_cases hn : pivG rows k d = rows.length
  · rw [stepG_no (s := (rows, d)) hn]
    refine ⟨c, h.dle, Nat.le_succ_of_le h.dk, fun i hi => Nat.lt_succ_of_lt (h.clt i hi), h.mono, h.one, h.lead, fun i hdi hi t ht => ?_⟩
    rcases Nat.lt_or_eq_of_le (Nat.le_of_lt_succ ht) with ht | ht
    · exact h.rest i hdi hi t ht
    · subst ht; exact h3 i hdi (by rw [hn]; exact hi)
  · obtain ⟨i0, hi0⟩ : ∃ i0, i0 = pivG rows k d := ⟨_, rfl⟩
    rw [← hi0] at h1 h2 h3 h4 hn
    have hi : i0 < rows.length := by omega
    have hne : nth (nthR rows i0) k ≠ 0 := by rcases h4 with h | h; omega; exact h
    rw [stepG_yes (s := (rows, d)) hi0.symm hi]
    have hd : d < rows.length := by omega
    obtain ⟨R, hR⟩ : ∃ R, R = upG p m rows d k i0 := ⟨_, rfl⟩
    have Rl : R.length = rows.length := by rw [hR, upG_len]
    have Rg : RowsG p m R := by rw [hR]; exact upG_good (by omega) hg hd hi
    have Rn : ∀ j, nthR R j = if j = d then scaleL p (nthR rows i0) (invN p (nth (nthR rows i0) k)) m else if j = i0 then nthR rows d else nthR rows j := fun j => by rw [hR]; exact upG_nth hd hi
    have gi := hg i0 hi
    -- the row that is brought up
    have Dz : ∀ t, t < k → nth (nthR R d) t = 0 := fun t ht => by
      rw [Rn d, if_pos rfl, scaleL_nth (by omega), scaleN, h.rest i0 h1 hi t ht]; simp
    have D1 : nth (nthR R d) k = 1 := by
      rw [Rn d, if_pos rfl, scaleL_nth hk, scaleN]
      have hb := gi.2 k hk
      exact (inv_spec hp (by omega) hb.2).2.1
    -- zeros of the others
    have Rz : ∀ j, d ≤ j → j < rows.length → ∀ t, t < k → nth (nthR R j) t = 0 := fun j hj hjl t ht => by
      by_cases hjd : j = d
      · subst hjd; exact Dz t ht
      · rw [Rn j, if_neg hjd]
        split
        · exact h.rest d (Nat.le_refl _) hd t ht
        · exact h.rest j hj hjl t ht
    have Ro : ∀ j, j < d → nthR R j = nthR rows j := fun j hj => by rw [Rn j, if_neg (by omega), if_neg (by omega)]
    rw [← hR]
    have Cn : ∀ j, j < rows.length → nthR (clrS p k m d R rows.length) j = if j ≠ d then plusL p (nthR R j) (nthR R d) (-(nth (nthR R j) k)) m else nthR R j := fun j hj => by
      rw [clrS_nth _ (by omega)]
      by_cases hjd : j ≠ d
      · rw [if_pos ⟨hj, hjd⟩, if_pos hjd]
      · rw [if_neg (by omega), if_neg hjd]
    -- places ahead of k do not change
    have Ct : ∀ j, j < rows.length → ∀ t, t < k → nth (nthR (clrS p k m d R rows.length) j) t = nth (nthR R j) t := fun j hj t ht => by
      rw [Cn j hj]
      by_cases hjd : j ≠ d
      · rw [if_pos hjd, plusL_nth (by omega)]
        unfold plusN
        have gj := (Rg j (by omega)).2 t (by omega)
        rw [Dz t ht, Int.mul_zero, Int.add_zero, Int.emod_eq_of_lt gj.1 gj.2]
      · rw [if_neg hjd]
    have Ck : ∀ j, j < rows.length → nth (nthR (clrS p k m d R rows.length) j) k = if j = d then 1 else 0 := fun j hj => by
      rw [Cn j hj]
      by_cases hjd : j ≠ d
      · rw [if_pos hjd, plusL_nth hk, if_neg hjd]
        unfold plusN
        rw [D1, Int.mul_one]
        rw [show nth (nthR R j) k + -nth (nthR R j) k = 0 by omega]; simp
      · rw [if_neg hjd, if_pos (by omega), show j = d by omega, D1]
    refine ⟨fun i => if i = d then k else c i, ?_⟩
    constructor
    · show d + 1 ≤ _; rw [clrS_len, Rl]; omega
    · show d + 1 ≤ k + 1; have := h.dk; omega
    · intro i hid
      have hid' : i < d + 1 := hid
      by_cases hi' : i = d
      · simp [hi']
      · simp only [hi', if_false]; have := h.clt i (by omega); omega
    · intro i j hij hj
      have hj' : j < d + 1 := hj
      have e1 : i ≠ d := by omega
      simp only [e1, if_false]
      by_cases hjd : j = d
      · simp only [hjd, if_true]; exact h.clt i (by omega)
      · simp only [hjd, if_false]; exact h.mono i j hij (by omega)
    · intro i hid j hj
      have hid' : i < d + 1 := hid
      rw [clrS_len, Rl] at hj
      by_cases hi' : i = d
      · simp only [hi', if_true]; exact Ck j hj
      · simp only [hi', if_false]
        have hid2 : i < d := by omega
        have hc := h.clt i hid2
        rw [Ct j hj _ hc]
        by_cases hjd : j < d
        · rw [Ro j hjd]; exact h.one i hid2 j hj
        · rw [Rz j (by omega) hj _ hc, if_neg (by omega)]
    · intro i hid t ht
      have hid' : i < d + 1 := hid
      by_cases hi' : i = d
      · simp only [hi', if_true] at ht
        rw [hi', Ct d hd t ht]; exact Dz t ht
      · simp only [hi', if_false] at ht
        have hid2 : i < d := by omega
        have hc := h.clt i hid2
        rw [Ct i (by omega) t (by omega), Ro i hid2]
        exact h.lead i hid2 t ht
    · intro i hdi hil t ht
      have hdi' : d + 1 ≤ i := hdi
      rw [clrS_len, Rl] at hil
      rcases Nat.lt_or_eq_of_le (Nat.le_of_lt_succ ht) with ht | ht
      · rw [Ct i hil t ht]; exact Rz i (by omega) hil t ht
      · rw [ht, Ck i hil, if_neg (by omega)]

theorem gaussS_len {p : Int} {m : Nat} {rows : List (List Int)} : ∀ k, (gaussS p m rows k).1.length = rows.length
  | 0 => rfl
  | k + 1 => by
    have ih := gaussS_len (p := p) (m := m) (rows := rows) k
    show (stepG p m (gaussS p m rows k) k).1.length = _
    unfold stepG
    split
    · exact ih
    · simp only [clrS_len, upG_len]; exact ih
theorem gaussS_red {p : Int} {m : Nat} {rows : List (List Int)} (hp : primeB p = true) (hg : RowsG p m rows) : ∀ k, k ≤ m → RowsG p m (gaussS p m rows k).1 ∧ ∃ c, Red (gaussS p m rows k).1 (gaussS p m rows k).2 k c
  | 0, _ => ⟨hg, fun _ => 0, Nat.zero_le _, Nat.le_refl _, fun i hi => absurd hi (Nat.not_lt_zero _), fun i j _ hj => absurd hj (Nat.not_lt_zero _), fun i hi => absurd hi (Nat.not_lt_zero _), fun i hi => absurd hi (Nat.not_lt_zero _), fun i _ _ t ht => absurd ht (Nat.not_lt_zero _)⟩
  | k + 1, hk => by
    obtain ⟨h1, c, h2⟩ := gaussS_red hp hg k (by omega)
    refine ⟨?_, h2.step hp (by omega) h1⟩
    show RowsG p m (stepG p m (gaussS p m rows k) k).1
    have hpb := prime_bd hp
    obtain ⟨p1, p2, p3, p4⟩ := pivG_spec _ k _ h2.dle
    by_cases hn : pivG (gaussS p m rows k).1 k (gaussS p m rows k).2 = (gaussS p m rows k).1.length
    · rw [stepG_no hn]; exact h1
    · rw [stepG_yes rfl (by omega)]
      exact clrS_good (by omega) (upG_good (by omega) h1 (by omega) (by omega)) _
theorem gaussS_stop {p : Int} {m : Nat} {rows : List (List Int)} {k : Nat} (h : (gaussS p m rows k).2 = rows.length) : ∀ j, gaussS p m rows (k + j) = gaussS p m rows k
  | 0 => rfl
  | j + 1 => by
    show stepG p m (gaussS p m rows (k + j)) (k + j) = _
    rw [gaussS_stop h j]
    apply stepG_no
    have hl := gaussS_len (p := p) (m := m) (rows := rows) k
    obtain ⟨p1, p2, _, _⟩ := pivG_spec (gaussS p m rows k).1 (k + j) (gaussS p m rows k).2 (by omega)
    omega
theorem gauss_rank {p : Int} {m : Nat} {rows : List (List Int)} (hp : primeB p = true) (hg : RowsG p m rows) : (gaussS p m rows m).2 ≤ rows.length ∧ (gaussS p m rows m).2 ≤ m := by
  obtain ⟨_, c, h⟩ := gaussS_red hp hg m (Nat.le_refl _)
  have := gaussS_len (p := p) (m := m) (rows := rows) m
  exact ⟨by have := h.dle; omega, h.dk⟩
/-- A reduced basis: each row has its first number other than 0, a 1, at a place of its own; all others have 0 there. -/
structure Basis (p : Int) (m : Nat) (rows : List (List Int)) (c : Nat → Nat) : Prop where
  good : RowsG p m rows
  len : rows.length ≤ m
  clt : ∀ i, i < rows.length → c i < m
  mono : ∀ i j, i < j → j < rows.length → c i < c j
  one : ∀ i, i < rows.length → ∀ j, j < rows.length → nth (nthR rows j) (c i) = if j = i then 1 else 0
  lead : ∀ i, i < rows.length → ∀ t, t < c i → nth (nthR rows i) t = 0
theorem basis_red {p : Int} {m : Nat} {rows : List (List Int)} (hp : primeB p = true) (hg : RowsG p m rows) : ∃ c, Basis p m (basisL p m rows) c := by
  obtain ⟨h1, c, h2⟩ := gaussS_red hp hg m (Nat.le_refl _)
  have hl : (basisL p m rows).length = (gaussS p m rows m).2 := by unfold basisL; rw [List.length_take, Nat.min_eq_left h2.dle]
  have hn : ∀ i, i < (gaussS p m rows m).2 → nthR (basisL p m rows) i = nthR (gaussS p m rows m).1 i := fun i hi => by unfold basisL; exact nthR_take hi
  have hd := h2.dle
  refine ⟨c, fun i hi => ?_, by rw [hl]; exact h2.dk, fun i hi => h2.clt i (by omega), fun i j hij hj => h2.mono i j hij (by omega), fun i hi j hj => ?_, fun i hi t ht => ?_⟩
  · rw [hn i (by omega)]; exact h1 i (by omega)
  · rw [hn j (by omega)]; exact h2.one i (by omega) j (by omega)
  · rw [hn i (by omega)]; exact h2.lead i (by omega) t ht

end Go.Proofs.Ytcocbainookkcaa

/-
  Products of lists of vectors.
  No condition.
-/
namespace Go.Proofs.Ytcocbainookkcaa
set_option maxRecDepth 100000
open Go.RowKit

/-- The product of the first k of some vectors. -/
def prodS (p : Int) (qs : List Int) (tk : Nat → Nat → Bool) (rows : List (List Int)) : Nat → List Int
  | 0 => bladeL (2 ^ qs.length) 0
  | k + 1 => prodL p qs tk (prodS p qs tk rows k) (vecL (2 ^ qs.length) (nthR rows k))
theorem prodS_good {p : Int} {qs : List Int} {tk : Nat → Nat → Bool} {rows : List (List Int)} (hp : 3 ≤ p) : ∀ k, Good p (2 ^ qs.length) (prodS p qs tk rows k)
  | 0 => blade_good hp
  | k + 1 => prod_good (by omega)
/-- The code of a space and a list of at most 16 vectors. -/
def codeVR (p : Int) (qs : List Int) (rows : List (List Int)) : Int := if codeV p qs rows = 0 then (if rows.length ≤ 16 then 0 else 2) else codeV p qs rows
theorem codeVR_zero {p : Int} {qs : List Int} {rows : List (List Int)} (h : codeVR p qs rows = 0) : spaceB p qs = true ∧ rows.all (vecB p qs.length) = true ∧ rows.length ≤ 16 := by
  unfold codeVR codeV at h
  cases hs : spaceB p qs
  · simp [hs] at h
  · cases ha : rows.all (vecB p qs.length)
    · simp [hs, ha] at h
    · simp [hs, ha] at h
      exact ⟨rfl, rfl, h⟩
theorem rows_good {p : Int} {d : Nat} {rows : List (List Int)} (h : rows.all (vecB p d) = true) : RowsG p d rows := fun i hi => by
  have := List.all_eq_true.1 h (nthR rows i) (by rw [nthR_eq hi]; exact List.getElem_mem hi)
  obtain ⟨h1, h2⟩ := vec_of this
  exact good_isB h1 h2





end Go.Proofs.Ytcocbainookkcaa

/-
  The codes of spaces and lists of vectors; the listed function WedgeOfVectors.
  No condition.
-/
namespace Go.Proofs.Ytcocbainookkcaa
set_option maxRecDepth 100000
open Go.RowKit

theorem codeVR_space {p : Int} {qs : List Int} {rows : List (List Int)} (h : spaceB p qs = false) : codeVR p qs rows = 1 := by simp [codeVR, codeV, h]
theorem codeVR_of {p : Int} {qs : List Int} {rows : List (List Int)} (h : spaceB p qs = true) : codeVR p qs rows = if (rows.all (vecB p qs.length) && decide (rows.length ≤ 16)) = true then 0 else 2 := by
  unfold codeVR codeV
  cases ha : rows.all (vecB p qs.length)
  · simp [h]
  · by_cases hl : rows.length ≤ 16 <;> simp [h, hl]


set_option maxHeartbeats 400000 in
theorem s_isVector (p : Int) (a : Option Addr) (d cap : Nat) (ax : Option Addr) (n cx : Nat) (xs : List Int) (w : World) (hp1 : 1 ≤ p) (hp2 : p ≤ 1000) (hl : n ≤ 4194304) (hx : RdC w ax n xs) :
    Calls Try.prog 105 #[.agg #[.int .i64 p, .slice a d cap], .slice ax n cx] w fun e w' => e = .returned (.bool (vecB p d xs)) ∧ Ext w w' := by
  by_cases hc : n = d
  · have HF := Lib.hid (show vecB p d xs = isB p xs by simp [vecB, hx.1, hc])
    have hcb : ((n : Int) == (d : Int)) = true := by simp [hc]
    clear hc
    go_enter Try.func105, Try.ntmps105
    go_wp2_with (go_at_call 139; refine (s_numbers _ _ _ _ _ _ hp1 hp2 hl (hx.ext (ext_alloc _ _))).mono ?_; rintro e w3 ⟨rfl, h3⟩)
    go_ret
    exact ⟨ret_bool HF.out.symm, (ext_alloc _ _).trans h3⟩
  · have HF := Lib.hid (show vecB p d xs = false by simp [vecB, hx.1, hc])
    have hcb : ((n : Int) == (d : Int)) = false := by simp; omega
    go_enter Try.func105, Try.ntmps105
    go_wp2_with (fail)
    go_ret
    exact ⟨ret_bool HF.out.symm, ext_alloc _ _⟩

theorem allV_false {p : Int} {d n k : Nat} {rows : List (List Int)} (hn : rows.length = n) (hk : k < n) (h : vecB p d (nthR rows k) = false) : rows.all (vecB p d) = false := by
  rw [List.all_eq_false]
  subst hn
  exact ⟨rows[k], List.getElem_mem hk, by rw [nthR_eq hk] at h; simp [h]⟩
theorem allV_true {p : Int} {d n : Nat} {rows : List (List Int)} (hn : rows.length = n) (h : ∀ j, j < n → vecB p d (nthR rows j) = true) : rows.all (vecB p d) = true := by
  rw [List.all_eq_true]
  intro x hx
  obtain ⟨i, hi, rfl⟩ := List.getElem_of_mem hx
  have := h i (by omega)
  rwa [nthR_eq hi] at this



def wedgeL (p : Int) (qs : List Int) (rows : List (List Int)) (n : Nat) : List Int := prodS p qs tkW rows n
end Go.Proofs.Ytcocbainookkcaa

/-
  Products and norms of vectors.
  No condition.
-/
namespace Go.Proofs.Ytcocbainookkcaa
set_option maxRecDepth 100000
open Go.RowKit

/-- The sum of the first k products. -/
def dotS (x y : List Int) : Nat → Int
  | 0 => 0
  | k + 1 => dotS x y k + nth x k * nth y k
theorem dotS_bd {p : Int} {n : Nat} {x y : List Int} (hp : p ≤ 1000) (hx : Good p n x) (hy : Good p n y) : ∀ k, k ≤ n → 0 ≤ dotS x y k ∧ dotS x y k ≤ 1000000 * k
  | 0, _ => by simp [dotS]
  | k + 1, hk => by
    have ih := dotS_bd hp hx hy k (by omega)
    have h1 := hx.2 k (by omega)
    have h2 := hy.2 k (by omega)
    have h3 := mul_bd hp h1.1 h1.2 h2.1 h2.2
    simp only [dotS, Int.natCast_add]
    omega
def dotL (p : Int) (x y : List Int) (n : Nat) : Int := dotS x y n % p
def wtN (p : Int) (qs v : List Int) (i : Nat) : Int := (nth v i * nth qs i) % p
def wtL (p : Int) (qs v : List Int) (n : Nat) : List Int := (List.range n).map (wtN p qs v)
theorem wtL_succ (p : Int) (qs v : List Int) (n : Nat) : wtL p qs v (n + 1) = wtL p qs v n ++ [wtN p qs v n] := by simp [wtL, List.range_succ]
theorem wtL_nth {p : Int} {qs v : List Int} {n i : Nat} (h : i < n) : nth (wtL p qs v n) i = wtN p qs v i := by
  unfold wtL; rw [nth_map (by simpa using h)]; simp
theorem wt_good {p : Int} {qs v : List Int} {n : Nat} (hp : 1 ≤ p) : Good p n (wtL p qs v n) := ⟨by simp [wtL], fun i hi => by
  rw [wtL_nth hi]; exact ⟨Int.emod_nonneg _ (by omega), Int.emod_lt_of_pos _ (by omega)⟩⟩
/-- The product of two vectors. -/
def pairL (p : Int) (qs v w : List Int) (n : Nat) : Int := dotL p (wtL p qs v n) w n
theorem pairL_bd {p : Int} {qs v w : List Int} {n : Nat} (hp : 1 ≤ p) : 0 ≤ pairL p qs v w n ∧ pairL p qs v w n < p := ⟨Int.emod_nonneg _ (by omega), Int.emod_lt_of_pos _ (by omega)⟩
/-- As the reference sums it. -/
def pairS (p : Int) (qs v w : List Int) : Nat → Int
  | 0 => 0
  | k + 1 => (pairS p qs v w k + nth v k * nth w k % p * nth qs k) % p
theorem dotS_congr {p : Int} {x x' y : List Int} : ∀ k, (∀ i, i < k → nth x i % p = nth x' i % p) → dotS x y k % p = dotS x' y k % p
  | 0, _ => rfl
  | k + 1, h => by
    simp only [dotS]
    rw [Int.add_emod, dotS_congr k (fun i hi => h i (by omega)), Int.mul_emod, h k (by omega), ← Int.mul_emod, ← Int.add_emod]
theorem pairS_eq {p : Int} {qs v w : List Int} {n : Nat} : ∀ k, k ≤ n → pairS p qs v w k = dotS (wtL p qs v n) w k % p
  | 0, _ => by simp [pairS, dotS]
  | k + 1, hk => by
    simp only [pairS, dotS]
    rw [pairS_eq k (by omega) (n := n), wtL_nth (by omega), wtN, Int.emod_add_emod, Int.add_emod, Int.add_emod (dotS _ _ _)]
    congr 1
    congr 1
    rw [Int.mul_emod, Int.emod_emod, ← Int.mul_emod, Int.mul_emod (_ % p), Int.emod_emod, ← Int.mul_emod]
    congr 1
    ac_rfl
theorem pairS_bd {p : Int} {qs v w : List Int} (hp : 1 ≤ p) : ∀ k, 0 ≤ pairS p qs v w k ∧ pairS p qs v w k < p
  | 0 => by simp only [pairS]; omega
  | k + 1 => ⟨Int.emod_nonneg _ (by omega), Int.emod_lt_of_pos _ (by omega)⟩

set_option maxHeartbeats 1000000 in
theorem c_dot (p : Int) (ax ay : Option Addr) (n cx cy : Nat) (x y : List Int) (w : World) (hp1 : 1 ≤ p) (hp2 : p ≤ 1000) (hn : n ≤ 1048576) (hx : RdC w ax n x) (hy : RdC w ay n y) (hgx : Good p n x) (hgy : Good p n y) :
    Calls Try.prog 107 #[.int .i64 p, .slice ax n cx, .slice ay n cy] w fun e w' => e = .returned (.int .i64 (dotL p x y n)) ∧ Ext w w' := by
  have HX := Lib.hid hx
  have HY := Lib.hid hy
  have HB := Lib.hid (fun k (hk : k ≤ n) => dotS_bd hp2 hgx hgy k hk)
  have HGX := Lib.hid hgx
  have HGY := Lib.hid hgy
  clear hx hy hgx hgy
  go_enter Try.func107, Try.ntmps107
  go_wp2_with (fail)
  go_loop [7, 12] (fun s i => ∃ (j : Nat) (z : Int), j ≤ n ∧ i = .int .i64 j ∧ s = .int .i64 z ∧ Hid (z = dotS x y j)) (fun _ i => n - (intOf i).toNat)
  case atStart => exact ⟨0, 0, Nat.zero_le _, rfl, rfl, Lib.hid rfl⟩
  case round =>
    obtain ⟨j, z, hj, rfl, rfl, HZ⟩ := hrel
    by_cases hlt : j < n
    · obtain ⟨bx, ox, rfl, hcx⟩ := HX.out.2 j hlt
      obtain ⟨by', oy, rfl, hcy⟩ := HY.out.2 j hlt
      have hbx := HGX.out.2 j hlt
      have hby := HGY.out.2 j hlt
      have hm := mul_bd hp2 hbx.1 hbx.2 hby.1 hby.2
      have hz := HB.out j hj
      rw [← HZ.out] at hz
      have hw1 : IntKind.i64.wrap (nth x j * nth y j) = nth x j * nth y j := IntWalk.i64_in _ (by omega)
      have hw2 : IntKind.i64.wrap (z + nth x j * nth y j) = z + nth x j * nth y j := IntWalk.i64_in _ (by omega)
      have HS : Hid (z + nth x j * nth y j = dotS x y (j + 1)) := Lib.hid (by simp only [dotS]; rw [HZ.out])
      clear hm hz
      go_wp2_with (fail)
      go_round
      case rel => exact ⟨j + 1, _, by omega, by go_num, rfl, HS⟩
      case measure => simp [intOf]; omega
    · obtain rfl : j = n := by omega
      have HR := Lib.hid (show z % p = dotL p x y j by unfold dotL; rw [HZ.out])
      go_wp2_with (go_at_call 64; refine (c_num _ _ _ hp1 hp2).mono ?_; rintro e w2 ⟨rfl, g2⟩; rw [HR.out])
      go_ret
      exact ⟨rfl, g2⟩

set_option maxHeartbeats 1000000 in
theorem c_weighted (p : Int) (a : Option Addr) (d cap : Nat) (qs : List Int) (av : Option Addr) (cv : Nat) (v : List Int) (w : World) (hp1 : 3 ≤ p) (hp2 : p ≤ 1000) (hd : d ≤ 1048576) (hq : RdC w a d qs) (hqb : isB p qs = true) (hv : RdC w av d v) (hg : Good p d v) :
    Calls Try.prog 108 #[.agg #[.int .i64 p, .slice a d cap], .slice av d cv] w fun e w' => ∃ g rc, e = .returned (.slice (some ⟨g, 0, none⟩) d rc) ∧ OwnC w.heap.size w' (some ⟨g, 0, none⟩) d rc (wtL p qs v d) ∧ Ext w w' := by
  have HQ := Lib.hid hq
  have HV := Lib.hid hv
  have HG := Lib.hid hg
  have HGQ := Lib.hid (good_isB hq.1 hqb)
  clear hq hv hg hqb
  obtain ⟨W, hW⟩ : ∃ W, W = w.alloc (.cells #[.int .i64 p, .slice a d cap] 26) := ⟨_, rfl⟩
  have gW : Ext w W := by rw [hW]; exact ext_alloc _ _
  have hs0 : W.cell? ⟨w.heap.size, 0, none⟩ = some (.int .i64 p) := by rw [hW]; simp
  have hs1 : W.cell? ⟨w.heap.size, 1, none⟩ = some (.slice a d cap) := by rw [hW]; simp
  have HS0 := Lib.hid (hs0)
  have HS1 := Lib.hid (hs1)
  have GW := Lib.hid (gW)
  have HW := Lib.hid hW
  clear hs0 hs1 gW hW
  go_enter Try.func108, Try.ntmps108
  go_wp2_with (fail)
  rw [← HW.out]
  go_wp2_with (fail)
  go_loopw [5, 11] (fun s i wr => ∃ (j g rc : Nat), j ≤ d ∧ i = .int .i64 j ∧ s = .slice (some ⟨g, 0, none⟩) j rc ∧ OwnC W.heap.size wr (some ⟨g, 0, none⟩) j rc (wtL p qs v j) ∧ Ext W wr) (fun _ i _ => d - (intOf i).toNat)
  case atStart => exact ⟨0, _, _, Nat.zero_le _, rfl, rfl, by have h := own_empty W; have hz : w.heap.size + 1 = W.heap.size := by rw [HW.out]; simp
                                                              rw [hz]; exact h, ext_alloc _ _⟩
  case round =>
    obtain ⟨j, g, rc, hj, rfl, rfl, hown, hext⟩ := hrel
    have HOwn := Lib.hid hown
    have HExt := Lib.hid hext
    clear hown hext
    by_cases hlt : j < d
    · obtain ⟨bv, ov, rfl, hcv⟩ := HV.out.2 j hlt
      obtain ⟨bq, oq, rfl, hcq⟩ := HQ.out.2 j hlt
      have hcv' := (GW.out.trans HExt.out).cell hcv
      have HCq := Lib.hid ((GW.out.trans (HExt.out.trans (ext_drew _))).cell hcq)
      have HT0 := Lib.hid ((HExt.out.trans (ext_drew _)).cell HS0.out)
      have HT1 := Lib.hid ((HExt.out.trans (ext_drew _)).cell HS1.out)
      have hbv := HG.out.2 j hlt
      have hbq := HGQ.out.2 j hlt
      have hm := mul_bd hp2 hbv.1 hbv.2 hbq.1 hbq.2
      have HW1 : Hid (IntKind.i64.wrap (nth v j * nth qs j) = nth v j * nth qs j) := Lib.hid (IntWalk.i64_in _ (by omega))
      clear hcv hcq hm hbv hbq
      go_wp2_with (fail)
      clear hcv'
      refine wp_region_lex_tail 12 [(11, .one (wtN p qs v j)), (2, .val (.int .i64 p)), (10, .val (.int .i64 (wtN p qs v j)))] (by kernel_rfl) (by kernel_rfl) ?_
      simp only [List.take, List.drop]
      (refine LexW.pure (v := ?_) rfl rfl (fun w1 he => ?_) ?_; rotate_left; ( have e1 := he.cell HT0.out; have e2 := he.cell HT1.out; have e3 := he.cell HCq.out; have e4 := HW1.out; go_simp; rfl); simp only [Act.put, List.setIfInBounds_toArray, List.set_cons_zero, List.set_cons_succ])
      (refine LexW.pure (v := ?_) rfl rfl (fun w1 he => ?_) ?_; rotate_left; ( have e1 := he.cell HT0.out; have e2 := he.cell HT1.out; have e3 := he.cell HCq.out; have e4 := HW1.out; go_simp; rfl); simp only [Act.put, List.setIfInBounds_toArray, List.set_cons_zero, List.set_cons_succ])
      (refine LexW.call (f := ?_) (args := ?_) rfl rfl (fun w1 => ?_) (fun w1 he hdep => ?_) ?_; rotate_left 2; (go_simp; refine ⟨?_, ?_⟩ <;> rfl); ( exact c_field p _ w1); simp only [Act.put, List.setIfInBounds_toArray, List.set_cons_zero, List.set_cons_succ])
      (refine LexW.pure (v := ?_) rfl rfl (fun w1 he => ?_) ?_; rotate_left; ( have e1 := he.cell HT0.out; have e2 := he.cell HT1.out; have e3 := he.cell HCq.out; have e4 := HW1.out; go_simp; rfl); simp only [Act.put, List.setIfInBounds_toArray, List.set_cons_zero, List.set_cons_succ])
      (refine LexW.pure (v := ?_) rfl rfl (fun w1 he => ?_) ?_; rotate_left; ( have e1 := he.cell HT0.out; have e2 := he.cell HT1.out; have e3 := he.cell HCq.out; have e4 := HW1.out; go_simp; rfl); simp only [Act.put, List.setIfInBounds_toArray, List.set_cons_zero, List.set_cons_succ])
      (refine LexW.pure (v := ?_) rfl rfl (fun w1 he => ?_) ?_; rotate_left; ( have e1 := he.cell HT0.out; have e2 := he.cell HT1.out; have e3 := he.cell HCq.out; have e4 := HW1.out; go_simp; rfl); simp only [Act.put, List.setIfInBounds_toArray, List.set_cons_zero, List.set_cons_succ])
      (refine LexW.pure (v := ?_) rfl rfl (fun w1 he => ?_) ?_; rotate_left; ( have e1 := he.cell HT0.out; have e2 := he.cell HT1.out; have e3 := he.cell HCq.out; have e4 := HW1.out; go_simp; rfl); simp only [Act.put, List.setIfInBounds_toArray, List.set_cons_zero, List.set_cons_succ])
      (refine LexW.pure (v := ?_) rfl rfl (fun w1 he => ?_) ?_; rotate_left; ( have e1 := he.cell HT0.out; have e2 := he.cell HT1.out; have e3 := he.cell HCq.out; have e4 := HW1.out; go_simp; rfl); simp only [Act.put, List.setIfInBounds_toArray, List.set_cons_zero, List.set_cons_succ])
      (refine LexW.pure (v := ?_) rfl rfl (fun w1 he => ?_) ?_; rotate_left; ( have e1 := he.cell HT0.out; have e2 := he.cell HT1.out; have e3 := he.cell HCq.out; have e4 := HW1.out; go_simp; rfl); simp only [Act.put, List.setIfInBounds_toArray, List.set_cons_zero, List.set_cons_succ])
      (refine LexW.pure (v := ?_) rfl rfl (fun w1 he => ?_) ?_; rotate_left; ( have e1 := he.cell HT0.out; have e2 := he.cell HT1.out; have e3 := he.cell HCq.out; have e4 := HW1.out; go_simp; rfl); simp only [Act.put, List.setIfInBounds_toArray, List.set_cons_zero, List.set_cons_succ])
      (refine LexW.call (f := ?_) (args := ?_) rfl rfl (fun w1 => ?_) (fun w1 he hdep => ?_) ?_; rotate_left 2; (go_simp; refine ⟨?_, ?_⟩ <;> rfl); ( exact c_num p (nth v j * nth qs j) w1 (by omega) hp2); simp only [Act.put, List.setIfInBounds_toArray, List.set_cons_zero, List.set_cons_succ])
      (refine LexW.rel rfl rfl (fun w1 he hdep => ?_) (fun v hv => ?_); ( exact ⟨.slice (some ⟨w1.heap.size, 0, none⟩) 1 1, w1.alloc (.cells #[.int .i64 (wtN p qs v j)] 2), (by go_simp), ext_alloc _ _, _, rfl, (by simp)⟩); simp only [Act.put, List.setIfInBounds_toArray, List.set_cons_zero, List.set_cons_succ])
      obtain ⟨_, g27, rfl, _⟩ := hv
      refine LexW.nil (fun w3 he hkn => ?_)
      obtain ⟨_, q27, r27⟩ : (SPred.one (wtN p qs v j)).holds (.slice (some ⟨g27, 0, none⟩) 1 1) w3 := hkn (11, _) (by simp)
      cases q27
      have X3 := Lib.hid ((ext_drew wr).trans he)
      have R27 := Lib.hid r27
      clear he hkn r27
      go_wp2_with (at_builtin; refine wpList_push rfl (.tmp 16) (.tmp 27) rfl rfl rfl (v := wtN p qs v j) (HOwn.out.ext X3.out) R27.out (by omega) (HExt.out.trans X3.out).size ?hk)
      case hk =>
        intro g' cap' w4 ho4 hg4 he4
        have HO4 := Lib.hid ho4
        have HE4 := Lib.hid (he4 W (Nat.le_refl _) (HExt.out.trans X3.out))
        clear ho4 hg4 he4
        go_wp2_with (fail)
        go_roundw
        case rel => exact ⟨j + 1, g', cap', by omega, by go_num, rfl, by rw [wtL_succ]; exact HO4.out, HE4.out⟩
        case measure => simp [intOf]; omega
    · obtain rfl : j = d := by omega
      go_wp2_with (fail)
      go_ret
      exact ⟨g, rc, rfl, HOwn.out.mono GW.out.size, GW.out.trans HExt.out⟩

set_option maxHeartbeats 1000000 in
theorem c_pair (p : Int) (a : Option Addr) (d cap : Nat) (qs : List Int) (av : Option Addr) (cv : Nat) (v : List Int) (au : Option Addr) (cu : Nat) (u : List Int) (w : World) (hp1 : 3 ≤ p) (hp2 : p ≤ 1000) (hd : d ≤ 6) (hq : RdC w a d qs) (hqb : isB p qs = true) (hv : RdC w av d v) (hgv : Good p d v) (hu : RdC w au d u) (hgu : Good p d u) :
    Calls Try.prog 65 #[.agg #[.int .i64 p, .slice a d cap], .slice av d cv, .slice au d cu] w fun e w' => e = .returned (.int .i64 (pairL p qs v u d)) ∧ Ext w w' := by
  have HQ := Lib.hid hq
  have HQB := Lib.hid hqb
  have HV := Lib.hid hv
  have HGV := Lib.hid hgv
  have HU := Lib.hid hu
  have HGU := Lib.hid hgu
  clear hq hqb hv hgv hu hgu
  obtain ⟨W, hW⟩ : ∃ W, W = w.alloc (.cells #[.int .i64 p, .slice a d cap] 26) := ⟨_, rfl⟩
  have gW : Ext w W := by rw [hW]; exact ext_alloc _ _
  have hs0 : W.cell? ⟨w.heap.size, 0, none⟩ = some (.int .i64 p) := by rw [hW]; simp
  have hs1 : W.cell? ⟨w.heap.size, 1, none⟩ = some (.slice a d cap) := by rw [hW]; simp
  have HS0 := Lib.hid ((ext_drew _).cell hs0)
  have HS1 := Lib.hid ((ext_drew _).cell hs1)
  have GW := Lib.hid (gW.trans (ext_drew _))
  have HW := Lib.hid hW
  clear hs0 hs1 gW hW
  go_enter Try.func65, Try.ntmps65
  go_wp2_with (fail)
  rw [← HW.out]
  refine wp_region_lex [(1, .val (.int .i64 p)), (4, .ownS w.heap.size d (wtL p qs v d)), (6, .val (.int .i64 (pairL p qs v u d)))] (by kernel_rfl) (by kernel_rfl) ?_
  (refine LexW.pure (v := ?_) rfl rfl (fun w1 he => ?_) ?_; rotate_left; ( have e1 := he.cell HS0.out; have e2 := he.cell HS1.out; go_simp; rfl); simp only [Act.put, List.setIfInBounds_toArray, List.set_cons_zero, List.set_cons_succ])
  (refine LexW.call (f := ?_) (args := ?_) rfl rfl (fun w1 => ?_) (fun w1 he hdep => ?_) ?_; rotate_left 2; (go_simp; refine ⟨?_, ?_⟩ <;> rfl); ( exact c_field p _ w1); simp only [Act.put, List.setIfInBounds_toArray, List.set_cons_zero, List.set_cons_succ])
  (refine LexW.pure (v := ?_) rfl rfl (fun w1 he => ?_) ?_; rotate_left; ( have e1 := he.cell HS0.out; have e2 := he.cell HS1.out; go_simp; rfl); simp only [Act.put, List.setIfInBounds_toArray, List.set_cons_zero, List.set_cons_succ])
  (refine LexW.pure (v := ?_) rfl rfl (fun w1 he => ?_) ?_; rotate_left; ( have e1 := he.cell HS0.out; have e2 := he.cell HS1.out; go_simp; rfl); simp only [Act.put, List.setIfInBounds_toArray, List.set_cons_zero, List.set_cons_succ])
  (refine LexW.callR (f := ?_) (args := ?_) rfl rfl (fun w1 => ?_) (fun w1 he hdep => ?_) (fun v hv => ?_); rotate_left 2; (go_simp; refine ⟨?_, ?_⟩ <;> rfl); ( refine (c_weighted p a d cap qs av cv v w1 hp1 hp2 (by omega) (HQ.out.ext (GW.out.trans he)) HQB.out (HV.out.ext (GW.out.trans he)) HGV.out).mono ?_; rintro e w2 ⟨g, rc, rfl, ho, g2⟩; exact ⟨_, rfl, g2, g, rc, rfl, ho.mono (Nat.le_trans GW.out.size he.size)⟩); simp only [Act.put, List.setIfInBounds_toArray, List.set_cons_zero, List.set_cons_succ])
  obtain ⟨_, g11, c11, rfl, _⟩ := hv
  (refine LexW.pure (v := ?_) rfl rfl (fun w1 he => ?_) ?_; rotate_left; ( have e1 := he.cell HS0.out; have e2 := he.cell HS1.out; go_simp; rfl); simp only [Act.put, List.setIfInBounds_toArray, List.set_cons_zero, List.set_cons_succ])
  (refine LexW.call (f := ?_) (args := ?_) rfl rfl (fun w1 => ?_) (fun w1 he hdep => ?_) ?_; rotate_left 2; (go_simp; refine ⟨?_, ?_⟩ <;> rfl); ( obtain ⟨_, _, q11, r11⟩ : (SPred.ownS w.heap.size d (wtL p qs v d)).holds (.slice (some ⟨g11, 0, none⟩) d c11) w1 := hdep (4, 11) (by decide +kernel); cases q11; exact c_dot p _ au d _ cu (wtL p qs v d) u w1 (by omega) hp2 (by omega) r11.rd (HU.out.ext (GW.out.trans he)) (wt_good (by omega)) HGU.out); simp only [Act.put, List.setIfInBounds_toArray, List.set_cons_zero, List.set_cons_succ])
  (refine LexW.pure (v := ?_) rfl rfl (fun w1 he => ?_) ?_; rotate_left; ( have e1 := he.cell HS0.out; have e2 := he.cell HS1.out; go_simp; rfl); simp only [Act.put, List.setIfInBounds_toArray, List.set_cons_zero, List.set_cons_succ])
  refine LexW.nil (fun w3 he hkn => ?_)
  have HE := Lib.hid (GW.out.trans he)
  clear he hkn 
  go_wp2_with (fail)
  go_ret
  exact ⟨rfl, HE.out⟩
set_option maxHeartbeats 400000 in
theorem c_norm (p : Int) (a : Option Addr) (d cap : Nat) (qs : List Int) (av : Option Addr) (cv : Nat) (v : List Int) (w : World) (hp1 : 3 ≤ p) (hp2 : p ≤ 1000) (hd : d ≤ 6) (hq : RdC w a d qs) (hqb : isB p qs = true) (hv : RdC w av d v) (hgv : Good p d v) :
    Calls Try.prog 46 #[.agg #[.int .i64 p, .slice a d cap], .slice av d cv] w fun e w' => e = .returned (.int .i64 (pairL p qs v v d)) ∧ Ext w w' := by
  have HQ := Lib.hid hq
  have HQB := Lib.hid hqb
  have HV := Lib.hid hv
  have HGV := Lib.hid hgv
  clear hq hqb hv hgv
  go_enter Try.func46, Try.ntmps46
  go_wp2_with (go_at_call 65; refine (c_pair p a d cap qs av cv v av cv v _ hp1 hp2 hd (HQ.out.ext (ext_alloc _ _)) HQB.out (HV.out.ext (ext_alloc _ _)) HGV.out (HV.out.ext (ext_alloc _ _)) HGV.out).mono ?_; rintro e w1 ⟨rfl, g1⟩)
  go_ret
  exact ⟨rfl, (ext_alloc _ _).trans g1⟩

set_option maxHeartbeats 2000000 in
theorem s_pair (p : Int) (a : Option Addr) (d cap : Nat) (qs : List Int) (av : Option Addr) (cv : Nat) (v : List Int) (au : Option Addr) (cu : Nat) (u : List Int) (w : World) (hp1 : 3 ≤ p) (hp2 : p ≤ 1000) (hd : d ≤ 6) (hq : RdC w a d qs) (hqb : isB p qs = true) (hv : RdC w av d v) (hgv : Good p d v) (hu : RdC w au d u) (hgu : Good p d u) :
    Calls Try.prog 53 #[.agg #[.int .i64 p, .slice a d cap], .slice av d cv, .slice au d cu] w fun e w' => e = .returned (.int .i64 (pairL p qs v u d)) ∧ Ext w w' := by
  have hpz : ¬ p = 0 := by omega
  have HQ := Lib.hid hq
  have HGQ := Lib.hid (good_isB hq.1 hqb)
  have HV := Lib.hid hv
  have HGV := Lib.hid hgv
  have HU := Lib.hid hu
  have HGU := Lib.hid hgu
  have HEnd := Lib.hid (pairS_eq (p := p) (qs := qs) (v := v) (w := u) d (Nat.le_refl d))
  have HBd := Lib.hid (fun k => pairS_bd (p := p) (qs := qs) (v := v) (w := u) (show 1 ≤ p by omega) k)
  clear hq hqb hv hgv hu hgu
  obtain ⟨W, hW⟩ : ∃ W, W = w.alloc (.cells #[.int .i64 p, .slice a d cap] 26) := ⟨_, rfl⟩
  have gW : Ext w W := by rw [hW]; exact ext_alloc _ _
  have hs0 : W.cell? ⟨w.heap.size, 0, none⟩ = some (.int .i64 p) := by rw [hW]; simp
  have hs1 : W.cell? ⟨w.heap.size, 1, none⟩ = some (.slice a d cap) := by rw [hW]; simp
  have HS0 := Lib.hid (hs0)
  have HS1 := Lib.hid (hs1)
  have GW := Lib.hid (gW)
  have HW := Lib.hid hW
  clear hs0 hs1 gW hW
  go_enter Try.func53, Try.ntmps53
  go_wp2_with (fail)
  rw [← HW.out]
  go_loopw [7, 8] (fun s i wr => ∃ (j : Nat) (z : Int), j ≤ d ∧ i = .int .i64 j ∧ s = .int .i64 z ∧ Hid (z = pairS p qs v u j) ∧ Ext W wr) (fun _ i _ => d - (intOf i).toNat)
  case atStart => exact ⟨0, 0, Nat.zero_le _, rfl, rfl, Lib.hid rfl, Ext.refl _⟩
  case round =>
    obtain ⟨j, z, hj, rfl, rfl, HZ, hext⟩ := hrel
    have HExt := Lib.hid hext
    clear hext
    by_cases hlt : j < d
    · obtain ⟨bv, ov, rfl, hcv⟩ := HV.out.2 j hlt
      obtain ⟨bu, ou, rfl, hcu⟩ := HU.out.2 j hlt
      obtain ⟨bq, oq, rfl, hcq⟩ := HQ.out.2 j hlt
      have GX := Lib.hid (GW.out.trans (HExt.out.trans (ext_drew wr)))
      have HCv := Lib.hid (GX.out.cell hcv)
      have HCu := Lib.hid (GX.out.cell hcu)
      have HCq := Lib.hid (GX.out.cell hcq)
      have HT0 := Lib.hid ((HExt.out.trans (ext_drew _)).cell HS0.out)
      have HT1 := Lib.hid ((HExt.out.trans (ext_drew _)).cell HS1.out)
      have hbv := HGV.out.2 j hlt
      have hbu := HGU.out.2 j hlt
      have hbq := HGQ.out.2 j hlt
      have hz := HBd.out j
      rw [← HZ.out] at hz
      have hm := mul_bd hp2 hbv.1 hbv.2 hbu.1 hbu.2
      obtain ⟨m1, hm1⟩ : ∃ m1, m1 = nth v j * nth u j % p := ⟨_, rfl⟩
      have hm1b : 0 ≤ m1 ∧ m1 < p := by rw [hm1]; exact ⟨Int.emod_nonneg _ (by omega), Int.emod_lt_of_pos _ (by omega)⟩
      have hm2 := mul_bd hp2 hm1b.1 hm1b.2 hbq.1 hbq.2
      obtain ⟨m2, hm2e⟩ : ∃ m2, m2 = (z + m1 * nth qs j) % p := ⟨_, rfl⟩
      have HW1 : Hid (IntKind.i64.wrap (nth v j * nth u j) = nth v j * nth u j) := Lib.hid (IntWalk.i64_in _ (by omega))
      have HW2 : Hid ((nth v j * nth u j).tmod p = m1) := Lib.hid (by rw [hm1]; exact Int.tmod_eq_emod_of_nonneg hm.1)
      have HW3 : Hid (IntKind.i64.wrap (m1 * nth qs j) = m1 * nth qs j) := Lib.hid (IntWalk.i64_in _ (by omega))
      have HW4 : Hid (IntKind.i64.wrap (z + m1 * nth qs j) = z + m1 * nth qs j) := Lib.hid (IntWalk.i64_in _ (by omega))
      have HW5 : Hid ((z + m1 * nth qs j).tmod p = m2) := Lib.hid (by rw [hm2e]; exact Int.tmod_eq_emod_of_nonneg (by omega))
      have HR : Hid (m2 = pairS p qs v u (j + 1)) := Lib.hid (by rw [hm2e, hm1, HZ.out]; rfl)
      clear hm hm1 hm1b hm2 hm2e hz hcv hcu hcq hbv hbu hbq
      go_wp2_with (fail)
      refine wp_region_lex [] (by kernel_rfl) (by kernel_rfl) ?_
      (refine LexW.pure (v := ?_) rfl rfl (fun w1 he => ?_) ?_; rotate_left; ( have e1 := he.cell HT0.out; have e2 := he.cell HT1.out; have e3 := he.cell HCv.out; have e4 := he.cell HCu.out; have e5 := he.cell HCq.out; have e6 := HW1.out; have e7 := HW2.out; have e8 := HW3.out; have e9 := HW4.out; have e10 := HW5.out; go_simp; rfl); simp only [Act.put, List.setIfInBounds_toArray, List.set_cons_zero, List.set_cons_succ])
      (refine LexW.pure (v := ?_) rfl rfl (fun w1 he => ?_) ?_; rotate_left; ( have e1 := he.cell HT0.out; have e2 := he.cell HT1.out; have e3 := he.cell HCv.out; have e4 := he.cell HCu.out; have e5 := he.cell HCq.out; have e6 := HW1.out; have e7 := HW2.out; have e8 := HW3.out; have e9 := HW4.out; have e10 := HW5.out; go_simp; rfl); simp only [Act.put, List.setIfInBounds_toArray, List.set_cons_zero, List.set_cons_succ])
      (refine LexW.pure (v := ?_) rfl rfl (fun w1 he => ?_) ?_; rotate_left; ( have e1 := he.cell HT0.out; have e2 := he.cell HT1.out; have e3 := he.cell HCv.out; have e4 := he.cell HCu.out; have e5 := he.cell HCq.out; have e6 := HW1.out; have e7 := HW2.out; have e8 := HW3.out; have e9 := HW4.out; have e10 := HW5.out; go_simp; rfl); simp only [Act.put, List.setIfInBounds_toArray, List.set_cons_zero, List.set_cons_succ])
      (refine LexW.pure (v := ?_) rfl rfl (fun w1 he => ?_) ?_; rotate_left; ( have e1 := he.cell HT0.out; have e2 := he.cell HT1.out; have e3 := he.cell HCv.out; have e4 := he.cell HCu.out; have e5 := he.cell HCq.out; have e6 := HW1.out; have e7 := HW2.out; have e8 := HW3.out; have e9 := HW4.out; have e10 := HW5.out; go_simp; rfl); simp only [Act.put, List.setIfInBounds_toArray, List.set_cons_zero, List.set_cons_succ])
      (refine LexW.pure (v := ?_) rfl rfl (fun w1 he => ?_) ?_; rotate_left; ( have e1 := he.cell HT0.out; have e2 := he.cell HT1.out; have e3 := he.cell HCv.out; have e4 := he.cell HCu.out; have e5 := he.cell HCq.out; have e6 := HW1.out; have e7 := HW2.out; have e8 := HW3.out; have e9 := HW4.out; have e10 := HW5.out; go_simp; rfl); simp only [Act.put, List.setIfInBounds_toArray, List.set_cons_zero, List.set_cons_succ])
      (refine LexW.pure (v := ?_) rfl rfl (fun w1 he => ?_) ?_; rotate_left; ( have e1 := he.cell HT0.out; have e2 := he.cell HT1.out; have e3 := he.cell HCv.out; have e4 := he.cell HCu.out; have e5 := he.cell HCq.out; have e6 := HW1.out; have e7 := HW2.out; have e8 := HW3.out; have e9 := HW4.out; have e10 := HW5.out; go_simp; rfl); simp only [Act.put, List.setIfInBounds_toArray, List.set_cons_zero, List.set_cons_succ])
      (refine LexW.pure (v := ?_) rfl rfl (fun w1 he => ?_) ?_; rotate_left; ( have e1 := he.cell HT0.out; have e2 := he.cell HT1.out; have e3 := he.cell HCv.out; have e4 := he.cell HCu.out; have e5 := he.cell HCq.out; have e6 := HW1.out; have e7 := HW2.out; have e8 := HW3.out; have e9 := HW4.out; have e10 := HW5.out; go_simp; rfl); simp only [Act.put, List.setIfInBounds_toArray, List.set_cons_zero, List.set_cons_succ])
      (refine LexW.pure (v := ?_) rfl rfl (fun w1 he => ?_) ?_; rotate_left; ( have e1 := he.cell HT0.out; have e2 := he.cell HT1.out; have e3 := he.cell HCv.out; have e4 := he.cell HCu.out; have e5 := he.cell HCq.out; have e6 := HW1.out; have e7 := HW2.out; have e8 := HW3.out; have e9 := HW4.out; have e10 := HW5.out; go_simp; rfl); simp only [Act.put, List.setIfInBounds_toArray, List.set_cons_zero, List.set_cons_succ])
      (refine LexW.pure (v := ?_) rfl rfl (fun w1 he => ?_) ?_; rotate_left; ( have e1 := he.cell HT0.out; have e2 := he.cell HT1.out; have e3 := he.cell HCv.out; have e4 := he.cell HCu.out; have e5 := he.cell HCq.out; have e6 := HW1.out; have e7 := HW2.out; have e8 := HW3.out; have e9 := HW4.out; have e10 := HW5.out; go_simp; rfl); simp only [Act.put, List.setIfInBounds_toArray, List.set_cons_zero, List.set_cons_succ])
      (refine LexW.pure (v := ?_) rfl rfl (fun w1 he => ?_) ?_; rotate_left; ( have e1 := he.cell HT0.out; have e2 := he.cell HT1.out; have e3 := he.cell HCv.out; have e4 := he.cell HCu.out; have e5 := he.cell HCq.out; have e6 := HW1.out; have e7 := HW2.out; have e8 := HW3.out; have e9 := HW4.out; have e10 := HW5.out; go_simp; rfl); simp only [Act.put, List.setIfInBounds_toArray, List.set_cons_zero, List.set_cons_succ])
      (refine LexW.pure (v := ?_) rfl rfl (fun w1 he => ?_) ?_; rotate_left; ( have e1 := he.cell HT0.out; have e2 := he.cell HT1.out; have e3 := he.cell HCv.out; have e4 := he.cell HCu.out; have e5 := he.cell HCq.out; have e6 := HW1.out; have e7 := HW2.out; have e8 := HW3.out; have e9 := HW4.out; have e10 := HW5.out; go_simp; rfl); simp only [Act.put, List.setIfInBounds_toArray, List.set_cons_zero, List.set_cons_succ])
      (refine LexW.pure (v := ?_) rfl rfl (fun w1 he => ?_) ?_; rotate_left; ( have e1 := he.cell HT0.out; have e2 := he.cell HT1.out; have e3 := he.cell HCv.out; have e4 := he.cell HCu.out; have e5 := he.cell HCq.out; have e6 := HW1.out; have e7 := HW2.out; have e8 := HW3.out; have e9 := HW4.out; have e10 := HW5.out; go_simp; rfl); simp only [Act.put, List.setIfInBounds_toArray, List.set_cons_zero, List.set_cons_succ])
      (refine LexW.pure (v := ?_) rfl rfl (fun w1 he => ?_) ?_; rotate_left; ( have e1 := he.cell HT0.out; have e2 := he.cell HT1.out; have e3 := he.cell HCv.out; have e4 := he.cell HCu.out; have e5 := he.cell HCq.out; have e6 := HW1.out; have e7 := HW2.out; have e8 := HW3.out; have e9 := HW4.out; have e10 := HW5.out; go_simp; rfl); simp only [Act.put, List.setIfInBounds_toArray, List.set_cons_zero, List.set_cons_succ])
      (refine LexW.pure (v := ?_) rfl rfl (fun w1 he => ?_) ?_; rotate_left; ( have e1 := he.cell HT0.out; have e2 := he.cell HT1.out; have e3 := he.cell HCv.out; have e4 := he.cell HCu.out; have e5 := he.cell HCq.out; have e6 := HW1.out; have e7 := HW2.out; have e8 := HW3.out; have e9 := HW4.out; have e10 := HW5.out; go_simp; rfl); simp only [Act.put, List.setIfInBounds_toArray, List.set_cons_zero, List.set_cons_succ])
      (refine LexW.pure (v := ?_) rfl rfl (fun w1 he => ?_) ?_; rotate_left; ( have e1 := he.cell HT0.out; have e2 := he.cell HT1.out; have e3 := he.cell HCv.out; have e4 := he.cell HCu.out; have e5 := he.cell HCq.out; have e6 := HW1.out; have e7 := HW2.out; have e8 := HW3.out; have e9 := HW4.out; have e10 := HW5.out; go_simp; rfl); simp only [Act.put, List.setIfInBounds_toArray, List.set_cons_zero, List.set_cons_succ])
      (refine LexW.pure (v := ?_) rfl rfl (fun w1 he => ?_) ?_; rotate_left; ( have e1 := he.cell HT0.out; have e2 := he.cell HT1.out; have e3 := he.cell HCv.out; have e4 := he.cell HCu.out; have e5 := he.cell HCq.out; have e6 := HW1.out; have e7 := HW2.out; have e8 := HW3.out; have e9 := HW4.out; have e10 := HW5.out; go_simp; rfl); simp only [Act.put, List.setIfInBounds_toArray, List.set_cons_zero, List.set_cons_succ])
      (refine LexW.pure (v := ?_) rfl rfl (fun w1 he => ?_) ?_; rotate_left; ( have e1 := he.cell HT0.out; have e2 := he.cell HT1.out; have e3 := he.cell HCv.out; have e4 := he.cell HCu.out; have e5 := he.cell HCq.out; have e6 := HW1.out; have e7 := HW2.out; have e8 := HW3.out; have e9 := HW4.out; have e10 := HW5.out; go_simp; rfl); simp only [Act.put, List.setIfInBounds_toArray, List.set_cons_zero, List.set_cons_succ])
      (refine LexW.pure (v := ?_) rfl rfl (fun w1 he => ?_) ?_; rotate_left; ( have e1 := he.cell HT0.out; have e2 := he.cell HT1.out; have e3 := he.cell HCv.out; have e4 := he.cell HCu.out; have e5 := he.cell HCq.out; have e6 := HW1.out; have e7 := HW2.out; have e8 := HW3.out; have e9 := HW4.out; have e10 := HW5.out; go_simp; rfl); simp only [Act.put, List.setIfInBounds_toArray, List.set_cons_zero, List.set_cons_succ])
      (refine LexW.pure (v := ?_) rfl rfl (fun w1 he => ?_) ?_; rotate_left; ( have e1 := he.cell HT0.out; have e2 := he.cell HT1.out; have e3 := he.cell HCv.out; have e4 := he.cell HCu.out; have e5 := he.cell HCq.out; have e6 := HW1.out; have e7 := HW2.out; have e8 := HW3.out; have e9 := HW4.out; have e10 := HW5.out; go_simp; rfl); simp only [Act.put, List.setIfInBounds_toArray, List.set_cons_zero, List.set_cons_succ])
      (refine LexW.pure (v := ?_) rfl rfl (fun w1 he => ?_) ?_; rotate_left; ( have e1 := he.cell HT0.out; have e2 := he.cell HT1.out; have e3 := he.cell HCv.out; have e4 := he.cell HCu.out; have e5 := he.cell HCq.out; have e6 := HW1.out; have e7 := HW2.out; have e8 := HW3.out; have e9 := HW4.out; have e10 := HW5.out; go_simp; rfl); simp only [Act.put, List.setIfInBounds_toArray, List.set_cons_zero, List.set_cons_succ])
      (refine LexW.pure (v := ?_) rfl rfl (fun w1 he => ?_) ?_; rotate_left; ( have e1 := he.cell HT0.out; have e2 := he.cell HT1.out; have e3 := he.cell HCv.out; have e4 := he.cell HCu.out; have e5 := he.cell HCq.out; have e6 := HW1.out; have e7 := HW2.out; have e8 := HW3.out; have e9 := HW4.out; have e10 := HW5.out; go_simp; rfl); simp only [Act.put, List.setIfInBounds_toArray, List.set_cons_zero, List.set_cons_succ])
      (refine LexW.pure (v := ?_) rfl rfl (fun w1 he => ?_) ?_; rotate_left; ( have e1 := he.cell HT0.out; have e2 := he.cell HT1.out; have e3 := he.cell HCv.out; have e4 := he.cell HCu.out; have e5 := he.cell HCq.out; have e6 := HW1.out; have e7 := HW2.out; have e8 := HW3.out; have e9 := HW4.out; have e10 := HW5.out; go_simp; rfl); simp only [Act.put, List.setIfInBounds_toArray, List.set_cons_zero, List.set_cons_succ])
      (refine LexW.pure (v := ?_) rfl rfl (fun w1 he => ?_) ?_; rotate_left; ( have e1 := he.cell HT0.out; have e2 := he.cell HT1.out; have e3 := he.cell HCv.out; have e4 := he.cell HCu.out; have e5 := he.cell HCq.out; have e6 := HW1.out; have e7 := HW2.out; have e8 := HW3.out; have e9 := HW4.out; have e10 := HW5.out; go_simp; rfl); simp only [Act.put, List.setIfInBounds_toArray, List.set_cons_zero, List.set_cons_succ])
      (refine LexW.pure (v := ?_) rfl rfl (fun w1 he => ?_) ?_; rotate_left; ( have e1 := he.cell HT0.out; have e2 := he.cell HT1.out; have e3 := he.cell HCv.out; have e4 := he.cell HCu.out; have e5 := he.cell HCq.out; have e6 := HW1.out; have e7 := HW2.out; have e8 := HW3.out; have e9 := HW4.out; have e10 := HW5.out; go_simp; rfl); simp only [Act.put, List.setIfInBounds_toArray, List.set_cons_zero, List.set_cons_succ])
      refine LexW.nil (fun w3 he hkn => ?_)
      have X3 := Lib.hid (HExt.out.trans ((ext_drew wr).trans he))
      clear he hkn
      go_wp2_with (fail)
      go_roundw
      case rel => exact ⟨j + 1, m2, by omega, by go_num, rfl, HR, X3.out⟩
      case measure => simp [intOf]; omega
    · obtain rfl : j = d := by omega
      go_wp2_with (fail)
      go_ret
      exact ⟨ret_int (by rw [HZ.out, HEnd.out]; rfl), GW.out.trans HExt.out⟩

end Go.Proofs.Ytcocbainookkcaa
