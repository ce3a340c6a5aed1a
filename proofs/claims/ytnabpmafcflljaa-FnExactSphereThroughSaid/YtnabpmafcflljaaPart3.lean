/-
  Contracts and plain laws, part 3: MapK, Own, RowsC, Basis, Rows3, Scale, BasisS.
  No condition.
-/
import Derived.Maps.OwnSet
import Derived.Maps.RangeWalk
import Derived.Test.YtnabpmafcflljaaPart2
import Derived.Test.YtnabpmafcflljaaPart0
import Derived.Test.YtnabpmafcflljaaPart1
import Derived.RegionTactic
import Derived.ChangeAlike
/-
  The map of the places of the first numbers of a reduced basis; a vector of the kernel filled in an order that nobody knows.
  No condition.
-/
namespace Go.Proofs.Ytnabpmafcflljaa
set_option maxRecDepth 100000
open Go.RowKit

theorem keyI (x : Int) : WideAt.IsKeyLit (.int .i64 x) := trivial
/-- The map as read when the first k rows have been gone through. -/
def plD (red : List (List Int)) : Nat → DataW Unit
  | 0 => .map []
  | i + 1 => (plD red i).put (.int .i64 (leadN (nthR red i))) (.lit (.int .i64 i))
theorem plD_map (red : List (List Int)) : ∀ k, Maps.IsMap (plD red k)
  | 0 => Maps.isMap_empty
  | k + 1 => (plD_map red k).put _ _
theorem plD_has (red : List (List Int)) (x : Int) : ∀ k, Maps.has (plD red k) (.int .i64 x) = true ↔ ∃ i : Nat, i < k ∧ ((leadN (nthR red i) : Nat) : Int) = x
  | 0 => by
    constructor
    · intro h; cases h
    · rintro ⟨i, hi, _⟩; omega
  | k + 1 => by
    unfold plD
    by_cases h : ((leadN (nthR red k) : Nat) : Int) = x
    · subst h
      exact ⟨fun _ => ⟨k, by omega, rfl⟩, fun _ => Maps.has_put_same (plD_map red k) (keyI _) _⟩
    · rw [Maps.has_put_other (fun e => h (by injection e with _ e2; exact e2.symm)), plD_has red x k]
      constructor
      · rintro ⟨i, hi, e⟩; exact ⟨i, by omega, e⟩
      · rintro ⟨i, hi, e⟩
        refine ⟨i, ?_, e⟩
        rcases Nat.lt_or_ge i k with h1 | h1
        · exact h1
        · obtain rfl : i = k := by omega
          exact absurd e h
theorem plD_at {p : Int} {m : Nat} {red : List (List Int)} {c : Nat → Nat} (hb : Basis p m red c) (z : DataW Unit) : ∀ k, k ≤ red.length → ∀ i, i < k → (plD red k).atKey (.int .i64 (leadN (nthR red i))) z = .lit (.int .i64 i)
  | 0, _, i, hi => by omega
  | k + 1, hk, i, hi => by
    unfold plD
    by_cases h : i = k
    · subst h
      exact Maps.atKey_put_same (plD_map red i) (keyI _) _ _
    · rw [Maps.atKey_put_other (fun e => by
        injection e with _ e2
        have h1 := hb.leadN (i := i) (by omega)
        have h2 := hb.leadN (i := k) (by omega)
        rw [h1, h2] at e2
        exact h (hb.inj (by omega) (by omega) (by omega)))]
      exact plD_at hb z k (by omega) i (by omega)
theorem plD_entry {p : Int} {m : Nat} {red : List (List Int)} {cc : Nat → Nat} (hb : Basis p m red cc) {x c : Int} (h : ∀ zd, (plD red red.length).atKey (.int .i64 x) zd = .lit (.int .i64 c)) : ∃ i : Nat, i < red.length ∧ c = (i : Int) ∧ x = ((leadN (nthR red i) : Nat) : Int) := by
  have hh := Maps.has_true_of_atKey (D := plD red red.length) (k := .int .i64 x) (y := .lit (.int .i64 c)) h
  obtain ⟨i, hi, e⟩ := (plD_has red x red.length).1 hh
  refine ⟨i, hi, ?_, e.symm⟩
  have h1 := plD_at hb (.lit (.int .i64 0)) red.length (Nat.le_refl _) i hi
  rw [e, h] at h1
  injection h1 with h2
  injection h2
theorem plD_piv {red : List (List Int)} {t : Nat} : Maps.has (plD red red.length) (.int .i64 t) = (pivIx red t).isSome := by
  rw [Bool.eq_iff_iff, plD_has]
  cases h : pivIx red t with
  | none =>
    simp only [Option.isSome_none, Bool.false_eq_true, iff_false, not_exists, not_and]
    intro i hi e
    exact pivIx_none h i hi (by omega)
  | some i =>
    obtain ⟨h1, h2⟩ := pivIx_some h
    simp only [Option.isSome_some, iff_true]
    exact ⟨i, h1, by omega⟩

/-- The vector while some entries are still to come. -/
def kerE (p : Int) (red : List (List Int)) (f : Nat) (left : Lit → Bool) (t : Nat) : Int := if t = f then 1 else match pivIx red t with | some i => if left (.int .i64 t) = true then 0 else (-(nth (nthR red i) f)) % p | none => 0
def kerP (p : Int) (n : Nat) (red : List (List Int)) (f : Nat) (left : Lit → Bool) : List Int := (List.range n).map (kerE p red f left)
theorem kerP_len (p : Int) (n : Nat) (red : List (List Int)) (f : Nat) (left : Lit → Bool) : (kerP p n red f left).length = n := by simp [kerP]
theorem kerP_nth {p : Int} {n : Nat} {red : List (List Int)} {f t : Nat} {left : Lit → Bool} (h : t < n) : nth (kerP p n red f left) t = kerE p red f left t := by
  unfold kerP; rw [nth_map (by simpa using h)]; simp
theorem kerP_start {p : Int} {n : Nat} {red : List (List Int)} {f : Nat} (hf : f < n) : kerP p n red f (Maps.has (plD red red.length)) = bladeL n f := by
  refine ext_nth (by rw [kerP_len, bladeL_len]) (fun t ht => ?_)
  rw [kerP_len] at ht
  rw [kerP_nth ht, bladeL_nth hf ht]
  unfold kerE
  by_cases h : t = f
  · rw [if_pos h, if_pos h.symm]
  · rw [if_neg h, if_neg (fun e => h e.symm)]
    cases hp : pivIx red t with
    | none => rfl
    | some i => simp only [plD_piv, hp, Option.isSome_some, if_true]
theorem kerP_end {p : Int} {n : Nat} {red : List (List Int)} {f : Nat} {left : Lit → Bool} (h : ∀ kl, left kl = false) : kerP p n red f left = kerV p n red f := by
  unfold kerP kerV
  refine List.map_congr_left fun t _ => ?_
  unfold kerE kerN
  cases hp : pivIx red t with
  | none => rfl
  | some i => simp only [h, Bool.false_eq_true, if_false]
theorem kerP_step {p : Int} {m n : Nat} {red : List (List Int)} {c : Nat → Nat} (hb : Basis p m red c) {f i : Nat} {left : Lit → Bool} (hi : i < red.length) (hx : leadN (nthR red i) < n) (hf : pivIx red f = none) :
    kerP p n red f (fun z => left z && !z.sameKey (.int .i64 (leadN (nthR red i)))) = (kerP p n red f left).set (leadN (nthR red i)) ((-(nth (nthR red i) f)) % p) := by
  have hpi : pivIx red (leadN (nthR red i)) = some i := by rw [hb.leadN hi]; exact hb.piv hi
  have hne : leadN (nthR red i) ≠ f := fun e => by rw [e, hf] at hpi; cases hpi
  refine ext_nth (by rw [kerP_len, List.length_set, kerP_len]) (fun t ht => ?_)
  rw [kerP_len] at ht
  rw [kerP_nth ht, nth_set (by rw [kerP_len]; exact hx)]
  by_cases h : t = leadN (nthR red i)
  · subst h
    rw [if_pos rfl]
    unfold kerE
    rw [if_neg hne, hpi]
    simp only [WideAt.sameKey_self (keyI _), Bool.not_true, Bool.and_false, Bool.false_eq_true, if_false]
  · rw [if_neg (fun e => h e.symm), kerP_nth ht]
    unfold kerE
    have : (Lit.int .i64 (t : Int)).sameKey (.int .i64 (leadN (nthR red i))) = false := Maps.sameKey_ne (fun e => by injection e with _ e2; omega)
    simp only [this, Bool.not_false, Bool.and_true]
theorem ownsMap_ext {P : Program} {k : TypeId} {R : Value → Option (DataW Unit × List MemPlace)} {b n : Nat} {D : DataW Unit} {w w' : World} (h : w.ownsMap P k R b n D) (he : Ext w w') : w'.ownsMap P k R b n D := by
  obtain ⟨es, clock, h1, h2⟩ := h
  exact ⟨es, clock, he.heap h1, h2⟩
theorem ranges_ext {P : Program} {k : TypeId} {R : Value → Option (DataW Unit × List MemPlace)} {b r n : Nat} {D : DataW Unit} {left : Lit → Bool} {cnt : Nat} {w w' : World} (h : w.ranges P k R b r n D left cnt) (he : Ext w w') : w'.ranges P k R b r n D left cnt := by
  obtain ⟨es, clock, since, seen, c0, h1, h2, h3, h4, h5, h6⟩ := h
  exact ⟨es, clock, since, seen, c0, he.heap h1, h2, h3, h4, he.heap h5, h6⟩
theorem ranges_keep {P : Program} {k : TypeId} {R : Value → Option (DataW Unit × List MemPlace)} {b r n : Nat} {D : DataW Unit} {left : Lit → Bool} {cnt : Nat} {w w' : World} (h : w.ranges P k R b r n D left cnt) (hb : w'.heap[b]? = w.heap[b]?) (hr : w'.heap[r]? = w.heap[r]?) : w'.ranges P k R b r n D left cnt := by
  obtain ⟨es, clock, since, seen, c0, h1, h2, h3, h4, h5, h6⟩ := h
  exact ⟨es, clock, since, seen, c0, hb.trans h1, h2, h3, h4, hr.trans h5, h6⟩
theorem lawK : Maps.Keyed Try.prog 3 := Maps.int_keyed Try.underlying3
theorem zeroK (w : World) : (zeroValue 3).run Try.prog w = .ok (.int .i64 0) w := by kernel_rfl
end Go.Proofs.Ytnabpmafcflljaa

/-
  Copies of slices, in the program and in the reference.
  No condition.
-/
namespace Go.Proofs.Ytnabpmafcflljaa
set_option maxRecDepth 100000
open Go.RowKit

set_option maxHeartbeats 400000 in
theorem s_own (b off n cap : Nat) (xs : List Int) (w : World) (hn : 0 < n) (hl : n ≤ 4194303) (hx : RdC w (some ⟨b, off, none⟩) n xs) :
    Calls Try.prog 42 #[.slice (some ⟨b, off, none⟩) n cap] w fun e w' => ∃ g rc, e = .returned (.slice (some ⟨g, 0, none⟩) n rc) ∧ OwnC w.heap.size w' (some ⟨g, 0, none⟩) n rc xs ∧ Ext w w' := by
  go_enter Try.func42, Try.ntmps42
  go_wp2_with (at_builtin; refine wpList_appendAll rfl (.tmp 3) (.tmp 4) rfl rfl rfl (own_empty w) (hx.ext (ext_alloc _ _)) hn (by omega) (by omega) ?hB ?hk)
  case hB => simp
  case hk =>
    intro g' cap' w3 ho3 hg3 he3
    have HO3 := Lib.hid ho3
    have HE3 := Lib.hid (he3 w (Nat.le_refl _) (ext_alloc _ _))
    clear ho3 hg3 he3
    go_wp2_with (fail)
    go_ret
    exact ⟨g', cap', rfl, HO3.out, HE3.out⟩
set_option maxHeartbeats 400000 in
theorem c_clone (b off n cap : Nat) (xs : List Int) (w : World) (hn : 0 < n) (hl : n ≤ 4194303) (hx : RdC w (some ⟨b, off, none⟩) n xs) :
    Calls Try.prog 72 #[.slice (some ⟨b, off, none⟩) n cap] w fun e w' => ∃ g rc, e = .returned (.slice (some ⟨g, 0, none⟩) n rc) ∧ OwnC w.heap.size w' (some ⟨g, 0, none⟩) n rc xs ∧ Ext w w' := by
  have qT : ∀ (w : World) (a : Option Addr) (n c : Nat), (binOp .eql 22 (.slice a n c) (.slice none 0 0)).run Try.prog w = .ok (.bool a.isNone) w := fun w a n c => Lib.run_eql_slice_nil w _ _ a n c 0 0 Try.underlying22
  go_enter Try.func72, Try.ntmps72
  go_wp2_with (at_builtin; refine wpList_appendAll rfl (.tmp 5) (.tmp 6) rfl rfl rfl (own_empty w) (hx.ext (ext_alloc _ _)) hn (by omega) (by omega) ?hB ?hk)
  case hB => simp
  case hk =>
    intro g' cap' w3 ho3 hg3 he3
    have HO3 := Lib.hid ho3
    have HE3 := Lib.hid (he3 w (Nat.le_refl _) (ext_alloc _ _))
    clear ho3 hg3 he3
    go_wp2_with (fail)
    go_ret
    exact ⟨g', cap', rfl, HO3.out, HE3.out⟩

end Go.Proofs.Ytnabpmafcflljaa

/-
  Contracts: copies of rows, transposed rows, unit rows, in the program and in the reference.
  No condition.
-/
namespace Go.Proofs.Ytnabpmafcflljaa
set_option maxRecDepth 100000
open Go.RowKit

theorem RdC.addr {w : World} {a : Option Addr} {n : Nat} {xs : List Int} (h : RdC w a n xs) (hn : 0 < n) : ∃ b off, a = some ⟨b, off, none⟩ := by
  obtain ⟨b, off, ha, _⟩ := h.2 0 hn
  exact ⟨b, off, ha⟩

theorem cell_new (w : World) (z : Nat) (hz : z = w.heap.size) (v : Value) (t : TypeId) : (w.alloc (.cells #[v] t)).cell? ⟨z, 0, none⟩ = some v := by subst hz; simp

set_option maxHeartbeats 1000000 in
theorem c_cloneRows (a : Option Addr) (n cap m : Nat) (rows : List (List Int)) (w : World) (hm : 0 < m) (hm2 : m ≤ 4194303) (hl : n ≤ 4194303) (hrl : ∀ i, i < n → (nthR rows i).length = m) (hx : RdR w a n rows) :
    Calls Try.prog 125 #[.slice a n cap] w fun e w' => ∃ g rc, e = .returned (.slice (some ⟨g, 0, none⟩) n rc) ∧ OwnR w.heap.size w' (some ⟨g, 0, none⟩) n rc rows ∧ Ext w w' := by
  have HX := Lib.hid hx
  have HRL := Lib.hid hrl
  clear hx hrl
  go_enter Try.func125, Try.ntmps125
  go_wp2_with (fail)
  go_loopw [3, 9] (fun v i wr => ∃ (k g rc : Nat), k ≤ n ∧ i = .int .i64 k ∧ v = .slice (some ⟨g, 0, none⟩) k rc ∧ OwnR w.heap.size wr (some ⟨g, 0, none⟩) k rc (rows.take k) ∧ Ext w wr) (fun _ i _ => n - (intOf i).toNat)
  case atStart => exact ⟨0, _, _, Nat.zero_le _, rfl, rfl, ownR_empty w, ext_alloc _ _⟩
  case round =>
    obtain ⟨k, g, rc, hk, rfl, rfl, hown, hext⟩ := hrel
    have HOwn := Lib.hid hown
    have HExt := Lib.hid hext
    clear hown hext
    by_cases hlt : k < n
    · obtain ⟨b, off, ai, ci, rfl, hc, hri⟩ := HX.out.2 k hlt
      rw [HRL.out k hlt] at hc hri
      obtain ⟨bi, oi, rfl⟩ := hri.addr hm
      have hc' := HExt.out.cell hc
      have HRi := Lib.hid (hri.ext HExt.out)
      clear hc hri
      go_wp2_with (fail)
      refine (c_clone bi oi m ci _ _ hm hm2 HRi.out).mono ?_
      rintro e w1 ⟨g1, rc1, rfl, ho1, h1⟩
      have HO1 := Lib.hid ho1
      have H1 := Lib.hid h1
      clear ho1 h1
      go_wp2_with (at_builtin; refine wpList_pushR (w0 := wr) rfl (.tmp 13) (.tmp 16) rfl rfl rfl HOwn.out (H1.out.trans (ext_alloc _ _)) (HO1.out.ext (ext_alloc _ _)) ?hc (by omega) HExt.out.size ?hk)
      case hc => simp
      case hk =>
        intro g' cap' w3 ho3 hg3 he3
        have HO3 := Lib.hid ho3
        have HE3 := Lib.hid (he3 w (Nat.le_refl _) ((HExt.out.trans H1.out).alloc _))
        clear ho3 hg3 he3
        go_wp2_with (fail)
        go_roundw
        case rel => exact ⟨k + 1, g', cap', by omega, by go_num, rfl, by rw [takeR_snoc _ _ (by rw [HX.out.1]; exact hlt)]; exact HO3.out, HE3.out⟩
        case measure => simp [intOf]; omega
    · go_wp2_with (fail)
      go_ret
      obtain rfl : k = n := by omega
      exact ⟨g, rc, rfl, by have := HOwn.out; rwa [List.take_of_length_le (by rw [HX.out.1]; exact Nat.le_refl _)] at this, HExt.out⟩

set_option maxHeartbeats 1000000 in
theorem s_own2 (a : Option Addr) (n cap m : Nat) (rows : List (List Int)) (w : World) (hm : 0 < m) (hm2 : m ≤ 4194303) (hl : n ≤ 4194303) (hrl : ∀ i, i < n → (nthR rows i).length = m) (hx : RdR w a n rows) :
    Calls Try.prog 81 #[.slice a n cap] w fun e w' => ∃ g rc, e = .returned (.slice (some ⟨g, 0, none⟩) n rc) ∧ OwnR w.heap.size w' (some ⟨g, 0, none⟩) n rc rows ∧ Ext w w' := by
  have HX := Lib.hid hx
  have HRL := Lib.hid hrl
  clear hx hrl
  go_enter Try.func81, Try.ntmps81
  go_wp2_with (fail)
  go_loopw [3, 4] (fun v i wr => ∃ (k g rc : Nat), k ≤ n ∧ i = .int .i64 k ∧ v = .slice (some ⟨g, 0, none⟩) k rc ∧ OwnR w.heap.size wr (some ⟨g, 0, none⟩) k rc (rows.take k) ∧ Ext w wr) (fun _ i _ => n - (intOf i).toNat)
  case atStart => exact ⟨0, _, _, Nat.zero_le _, rfl, rfl, ownR_empty w, ext_alloc _ _⟩
  case round =>
    obtain ⟨k, g, rc, hk, rfl, rfl, hown, hext⟩ := hrel
    have HOwn := Lib.hid hown
    have HExt := Lib.hid hext
    clear hown hext
    by_cases hlt : k < n
    · obtain ⟨b, off, ai, ci, rfl, hc, hri⟩ := HX.out.2 k hlt
      rw [HRL.out k hlt] at hc hri
      obtain ⟨bi, oi, rfl⟩ := hri.addr hm
      have hc' := HExt.out.cell hc
      have HRi := Lib.hid (hri.ext HExt.out)
      clear hc hri
      go_wp2_with (fail)
      refine (s_own bi oi m ci _ _ hm hm2 HRi.out).mono ?_
      rintro e w1 ⟨g1, rc1, rfl, ho1, h1⟩
      have HO1 := Lib.hid ho1
      have H1 := Lib.hid h1
      clear ho1 h1
      go_wp2_with (at_builtin; refine wpList_pushR (w0 := wr) rfl (.tmp 12) (.tmp 18) rfl rfl rfl HOwn.out (H1.out.trans (ext_alloc _ _)) (HO1.out.ext (ext_alloc _ _)) ?hc (by omega) HExt.out.size ?hk)
      case hc => simp
      case hk =>
        intro g' cap' w3 ho3 hg3 he3
        have HO3 := Lib.hid ho3
        have HE3 := Lib.hid (he3 w (Nat.le_refl _) ((HExt.out.trans H1.out).alloc _))
        clear ho3 hg3 he3
        go_wp2_with (fail)
        go_roundw
        case rel => exact ⟨k + 1, g', cap', by omega, by go_num, rfl, by rw [takeR_snoc _ _ (by rw [HX.out.1]; exact hlt)]; exact HO3.out, HE3.out⟩
        case measure => simp [intOf]; omega
    · go_wp2_with (fail)
      go_ret
      obtain rfl : k = n := by omega
      exact ⟨g, rc, rfl, by have := HOwn.out; rwa [List.take_of_length_le (by rw [HX.out.1]; exact Nat.le_refl _)] at this, HExt.out⟩

/-! ### Transposed rows -/
def colL (rows : List (List Int)) (k n : Nat) : List Int := (List.range n).map fun i => nth (nthR rows i) k
theorem colL_succ (rows : List (List Int)) (k n : Nat) : colL rows k (n + 1) = colL rows k n ++ [nth (nthR rows n) k] := by simp [colL, List.range_succ]
theorem colL_len (rows : List (List Int)) (k n : Nat) : (colL rows k n).length = n := by simp [colL]
theorem colL_nth {rows : List (List Int)} {k n i : Nat} (h : i < n) : nth (colL rows k n) i = nth (nthR rows i) k := by
  unfold colL; rw [nth_map (by simpa using h)]; simp
/-- The first m columns of n rows. -/
def turnL (rows : List (List Int)) (n m : Nat) : List (List Int) := (List.range m).map fun k => colL rows k n
theorem turnL_succ (rows : List (List Int)) (n m : Nat) : turnL rows n (m + 1) = turnL rows n m ++ [colL rows m n] := by simp [turnL, List.range_succ]
theorem turnL_len (rows : List (List Int)) (n m : Nat) : (turnL rows n m).length = m := by simp [turnL]
theorem turnL_nth {rows : List (List Int)} {n m k : Nat} (h : k < m) : nthR (turnL rows n m) k = colL rows k n := by
  unfold turnL; rw [nthR_map (by simpa using h)]; simp

set_option maxHeartbeats 2000000 in
theorem c_transpose (a : Option Addr) (n cap m : Nat) (rows : List (List Int)) (w : World) (hn : 0 < n) (hm2 : m ≤ 1048576) (hl : n ≤ 1048576) (hrl : ∀ i, i < n → (nthR rows i).length = m) (hx : RdR w a n rows) :
    Calls Try.prog 101 #[.slice a n cap] w fun e w' => ∃ g rc, e = .returned (.slice (some ⟨g, 0, none⟩) m rc) ∧ OwnR w.heap.size w' (some ⟨g, 0, none⟩) m rc (turnL rows n m) ∧ Ext w w' := by
  have HX := Lib.hid hx
  have HRL := Lib.hid hrl
  obtain ⟨b0, off0, a0, c0, rfl, hc0, _⟩ := hx.2 0 hn
  rw [hrl 0 hn, Nat.add_zero] at hc0
  clear hx hrl
  go_enter Try.func101, Try.ntmps101
  have hc0' : (w.alloc (.cells #[] 22)).cell? ⟨b0, off0, none⟩ = some (.slice a0 m c0) := (ext_alloc w _).cell hc0
  go_wp2_with (fail)
  clear hc0' hc0
  go_loopw [3, 12] (fun v i wr => ∃ (k g rc : Nat), k ≤ m ∧ i = .int .i64 k ∧ v = .slice (some ⟨g, 0, none⟩) k rc ∧ OwnR w.heap.size wr (some ⟨g, 0, none⟩) k rc (turnL rows n k) ∧ Ext w wr) (fun _ i _ => m - (intOf i).toNat)
  case atStart => exact ⟨0, _, _, Nat.zero_le _, rfl, rfl, ownR_empty w, ext_alloc _ _⟩
  case round =>
    obtain ⟨k, g, rc, hk, rfl, rfl, hown, hext⟩ := hrel
    have HOwn := Lib.hid hown
    have HExt := Lib.hid hext
    clear hown hext
    by_cases hlt : k < m
    · go_wp2_with (fail)
      obtain ⟨wo, rfl⟩ : ∃ wo : World, wo = wr := ⟨_, rfl⟩
      go_loopw [5, 18] (fun v i wr => ∃ (j g rc : Nat), j ≤ n ∧ i = .int .i64 j ∧ v = .slice (some ⟨g, 0, none⟩) j rc ∧ OwnC wo.heap.size wr (some ⟨g, 0, none⟩) j rc (colL rows k j) ∧ Ext wo wr) (fun _ i _ => n - (intOf i).toNat)
      case atStart => exact ⟨0, _, _, Nat.zero_le _, rfl, rfl, own_empty wo, ext_alloc _ _⟩
      case round =>
        obtain ⟨j, g1, rc1, hj, rfl, rfl, hown1, hext1⟩ := hrel
        have HOwn1 := Lib.hid hown1
        have HExt1 := Lib.hid hext1
        clear hown1 hext1
        by_cases hlt1 : j < n
        · obtain ⟨b, off, ai, ci, hab, hc, hri⟩ := HX.out.2 j hlt1
          cases hab
          rw [HRL.out j hlt1] at hc hri
          obtain ⟨bi, oi, rfl, hci⟩ := hri.2 k hlt
          have hc' := (HExt.out.trans HExt1.out).cell hc
          have hci' := (HExt.out.trans HExt1.out).cell hci
          clear hc hri hci
          go_wp2_with (at_builtin; refine wpList_push rfl (.tmp 21) (.tmp 29) rfl rfl rfl (v := nth (nthR rows j) k) (HOwn1.out.ext (ext_alloc _ _)) ?hc (by omega) ?hB ?hk)
          case hc => simp
          case hB => have hz := HExt1.out.size'; simp; omega
          case hk =>
            intro g' cap' w3 ho3 hg3 he3
            have HO3 := Lib.hid ho3
            have HE3 := Lib.hid (he3 wo (Nat.le_refl _) (HExt1.out.alloc _))
            clear ho3 hg3 he3
            go_wp2_with (fail)
            go_roundw
            case rel => exact ⟨j + 1, g', cap', by omega, by go_num, rfl, by rw [colL_succ]; exact HO3.out, HE3.out⟩
            case measure => simp [intOf]; omega
        · obtain rfl : j = n := by omega
          go_wp2_with (at_builtin; refine wpList_pushR (w0 := wo) rfl (.tmp 32) (.tmp 34) rfl rfl rfl HOwn.out (HExt1.out.trans (ext_alloc _ _)) (HOwn1.out.ext (ext_alloc _ _)) ?hc (by omega) HExt.out.size ?hk)
          case hc => simp
          case hk =>
            intro g' cap' w3 ho3 hg3 he3
            have HO3 := Lib.hid ho3
            have HE3 := Lib.hid (he3 w (Nat.le_refl _) ((HExt.out.trans HExt1.out).alloc _))
            clear ho3 hg3 he3
            go_wp2_with (fail)
            go_roundw
            case rel => exact ⟨k + 1, g', cap', by omega, by go_num, rfl, by rw [turnL_succ]; exact HO3.out, HE3.out⟩
            case measure => simp [intOf]; omega
    · go_wp2_with (fail)
      go_ret
      obtain rfl : k = m := by omega
      exact ⟨g, rc, rfl, HOwn.out, HExt.out⟩

set_option maxHeartbeats 2000000 in
theorem s_turn (a : Option Addr) (n cap m : Nat) (rows : List (List Int)) (w : World) (hn : 0 < n) (hm2 : m ≤ 1048576) (hl : n ≤ 1048576) (hrl : ∀ i, i < n → (nthR rows i).length = m) (hx : RdR w a n rows) :
    Calls Try.prog 106 #[.slice a n cap] w fun e w' => ∃ g rc, e = .returned (.slice (some ⟨g, 0, none⟩) m rc) ∧ OwnR w.heap.size w' (some ⟨g, 0, none⟩) m rc (turnL rows n m) ∧ Ext w w' := by
  have HX := Lib.hid hx
  have HRL := Lib.hid hrl
  obtain ⟨b0, off0, a0, c0, rfl, hc0, _⟩ := hx.2 0 hn
  rw [hrl 0 hn, Nat.add_zero] at hc0
  have HC0 := Lib.hid hc0
  clear hx hrl hc0
  go_enter Try.func106, Try.ntmps106
  go_wp2_with (fail)
  go_loopw [3, 4] (fun v i wr => ∃ (k g rc : Nat), k ≤ m ∧ i = .int .i64 k ∧ v = .slice (some ⟨g, 0, none⟩) k rc ∧ OwnR w.heap.size wr (some ⟨g, 0, none⟩) k rc (turnL rows n k) ∧ Ext w wr) (fun _ i _ => m - (intOf i).toNat)
  case atStart => exact ⟨0, _, _, Nat.zero_le _, rfl, rfl, ownR_empty w, ext_alloc _ _⟩
  case round =>
    obtain ⟨k, g, rc, hk, rfl, rfl, hown, hext⟩ := hrel
    have HOwn := Lib.hid hown
    have HExt := Lib.hid hext
    have hc0 : wr.cell? ⟨b0, off0, none⟩ = some (.slice a0 m c0) := hext.cell HC0.out
    clear hown hext
    by_cases hlt : k < m
    · go_wp2_with (fail)
      clear hc0
      obtain ⟨wo, rfl⟩ : ∃ wo : World, wo = wr := ⟨_, rfl⟩
      go_loopw [5, 6] (fun v i wr => ∃ (j g rc : Nat), j ≤ n ∧ i = .int .i64 j ∧ v = .slice (some ⟨g, 0, none⟩) j rc ∧ OwnC wo.heap.size wr (some ⟨g, 0, none⟩) j rc (colL rows k j) ∧ Ext wo wr) (fun _ i _ => n - (intOf i).toNat)
      case atStart => exact ⟨0, _, _, Nat.zero_le _, rfl, rfl, own_empty wo, ext_alloc _ _⟩
      case round =>
        obtain ⟨j, g1, rc1, hj, rfl, rfl, hown1, hext1⟩ := hrel
        have HOwn1 := Lib.hid hown1
        have HExt1 := Lib.hid hext1
        clear hown1 hext1
        by_cases hlt1 : j < n
        · obtain ⟨b, off, ai, ci, hab, hc, hri⟩ := HX.out.2 j hlt1
          cases hab
          rw [HRL.out j hlt1] at hc hri
          obtain ⟨bi, oi, rfl, hci⟩ := hri.2 k hlt
          have hc' := (HExt.out.trans HExt1.out).cell hc
          have hci' := (HExt.out.trans HExt1.out).cell hci
          clear hc hri hci
          go_wp2_with (at_builtin; refine wpList_push rfl (.tmp 23) (.tmp 31) rfl rfl rfl (v := nth (nthR rows j) k) (HOwn1.out.ext (ext_alloc _ _)) ?hc (by omega) ?hB ?hk)
          case hc => simp
          case hB => have hz := HExt1.out.size'; simp; omega
          case hk =>
            intro g' cap' w3 ho3 hg3 he3
            have HO3 := Lib.hid ho3
            have HE3 := Lib.hid (he3 wo (Nat.le_refl _) (HExt1.out.alloc _))
            clear ho3 hg3 he3
            go_wp2_with (fail)
            go_roundw
            case rel => exact ⟨j + 1, g', cap', by omega, by go_num, rfl, by rw [colL_succ]; exact HO3.out, HE3.out⟩
            case measure => simp [intOf]; omega
        · obtain rfl : j = n := by omega
          go_wp2_with (at_builtin; refine wpList_pushR (w0 := wo) rfl (.tmp 33) (.tmp 35) rfl rfl rfl HOwn.out (HExt1.out.trans (ext_alloc _ _)) (HOwn1.out.ext (ext_alloc _ _)) ?hc (by omega) HExt.out.size ?hk)
          case hc => simp
          case hk =>
            intro g' cap' w3 ho3 hg3 he3
            have HO3 := Lib.hid ho3
            have HE3 := Lib.hid (he3 w (Nat.le_refl _) ((HExt.out.trans HExt1.out).alloc _))
            clear ho3 hg3 he3
            go_wp2_with (fail)
            go_roundw
            case rel => exact ⟨k + 1, g', cap', by omega, by go_num, rfl, by rw [turnL_succ]; exact HO3.out, HE3.out⟩
            case measure => simp [intOf]; omega
    · go_wp2_with (fail)
      go_ret
      obtain rfl : k = m := by omega
      exact ⟨g, rc, rfl, HOwn.out, HExt.out⟩

/-! ### Unit rows -/
def unitL (n k : Nat) : List (List Int) := (List.range k).map fun i => bladeL n i
theorem unitL_succ (n k : Nat) : unitL n (k + 1) = unitL n k ++ [bladeL n k] := by simp [unitL, List.range_succ]
theorem unitL_len (n k : Nat) : (unitL n k).length = k := by simp [unitL]
theorem unitL_nth {n k i : Nat} (h : i < k) : nthR (unitL n k) i = bladeL n i := by
  unfold unitL; rw [nthR_map (by simpa using h)]; simp
set_option maxHeartbeats 1000000 in
theorem c_unit (n : Nat) (w : World) (hl : n ≤ 1048576) :
    Calls Try.prog 48 #[.int .i64 n] w fun e w' => ∃ g rc, e = .returned (.slice (some ⟨g, 0, none⟩) n rc) ∧ OwnR w.heap.size w' (some ⟨g, 0, none⟩) n rc (unitL n n) ∧ Ext w w' := by
  go_enter Try.func48, Try.ntmps48
  go_wp2_with (fail)
  go_loopw [3, 8] (fun v i wr => ∃ (k g rc : Nat), k ≤ n ∧ i = .int .i64 k ∧ v = .slice (some ⟨g, 0, none⟩) k rc ∧ OwnR w.heap.size wr (some ⟨g, 0, none⟩) k rc (unitL n k) ∧ Ext w wr) (fun _ i _ => n - (intOf i).toNat)
  case atStart => exact ⟨0, _, _, Nat.zero_le _, rfl, rfl, ownR_empty w, ext_alloc _ _⟩
  case round =>
    obtain ⟨k, g, rc, hk, rfl, rfl, hown, hext⟩ := hrel
    have HOwn := Lib.hid hown
    have HExt := Lib.hid hext
    clear hown hext
    by_cases hlt : k < n
    · obtain ⟨w0, hmk, hown0, hext0⟩ := make_ints wr n (by omega)
      obtain ⟨g0, hg0⟩ : ∃ g, g = wr.heap.size := ⟨_, rfl⟩
      rw [← hg0] at hmk hown0
      have HG0 := Lib.hid hg0
      have hge : wr.heap.size ≤ g0 := by omega
      have HO0 := Lib.hid hown0
      have HE0 := Lib.hid hext0
      have hcg := hown0.cell hlt
      have hfz := hown0.frozen k
      clear hown0 hext0 hg0
      go_wp2_with (at_builtin; refine wpList_pushR (w0 := wr) rfl (.tmp 16) (.tmp 18) rfl rfl rfl HOwn.out ((HE0.out.setCell hge _).trans (ext_alloc _ _)) (xs := bladeL n k) (((HO0.out.store hlt 1).mono hge).ext (ext_alloc _ _)) ?hc (by omega) HExt.out.size ?hk)
      case hc => exact cell_new _ _ (by simp) _ _
      case hk =>
        intro g' cap' w3 ho3 hg3 he3
        have HO3 := Lib.hid ho3
        have HE3 := Lib.hid (he3 w (Nat.le_refl _) ((HExt.out.trans (HE0.out.setCell hge _)).alloc _))
        clear ho3 hg3 he3
        go_wp2_with (fail)
        go_roundw
        case rel => exact ⟨k + 1, g', cap', by omega, by go_num, rfl, by rw [unitL_succ]; exact HO3.out, HE3.out⟩
        case measure => simp [intOf]; omega
    · go_wp2_with (fail)
      go_ret
      obtain rfl : k = n := by omega
      exact ⟨g, rc, rfl, HOwn.out, HExt.out⟩
end Go.Proofs.Ytnabpmafcflljaa

/-
  Contract: the reduced basis of rows, in the program and in the reference.
  No condition.
-/
namespace Go.Proofs.Ytnabpmafcflljaa
set_option maxRecDepth 100000
open Go.RowKit

theorem ownR_put_len {p : Int} {m : Nat} {rows : List (List Int)} (h : RowsG p m rows) {n i : Nat} (hn : rows.length = n) (hi : i < n) : (nthR rows i).length = m := (h i (by omega)).1
theorem basis_nil {p : Int} {m : Nat} : basisL p m [] = [] := by unfold basisL; rw [List.take_of_length_le (by rw [gaussS_len]; exact Nat.zero_le _)]; have := gaussS_len (p := p) (m := m) (rows := []) m; exact List.length_eq_zero_iff.1 this

theorem swapL_at {rows : List (List Int)} {d j : Nat} (hd : d < rows.length) (hj : j < rows.length) : nthR (swapL rows d j) d = nthR rows j := by
  rw [swapL_nth hd hj]
  by_cases h : d = j
  · subst h; rw [if_pos rfl]
  · rw [if_neg h, if_pos rfl]
set_option maxHeartbeats 8000000 in
set_option maxRecDepth 100000 in
theorem c_basis (p : Int) (a : Option Addr) (n cap m : Nat) (rows : List (List Int)) (w : World) (hpr : primeB p = true) (hm : 0 < m) (hm2 : m ≤ 4096) (hl : n ≤ 4096) (hx : RdR w a n rows) (hg : RowsG p m rows) :
    Calls Try.prog 84 #[.int .i64 p, .slice a n cap] w fun e w' => ∃ g rc r, e = .returned (.slice (some ⟨g, 0, none⟩) r rc) ∧ OwnR w.heap.size w' (some ⟨g, 0, none⟩) r rc (basisL p m rows) ∧ Ext w w' := by
  have hpb := prime_bd hpr
  have HX := Lib.hid hx
  have HG := Lib.hid hg
  have HPR := Lib.hid hpr
  have HLN := Lib.hid hx.1
  have HRed := Lib.hid (fun k (hk : k ≤ m) => gaussS_red hpr hg k hk)
  clear hx hg hpr
  go_enter Try.func84, Try.ntmps84
  go_wp2_with (fail)
  refine (c_cloneRows a n cap m rows w hm (by omega) (by omega) (fun i hi => ownR_put_len HG.out HLN.out hi) HX.out).mono ?_
  rintro e w1 ⟨g, rc, rfl, ho, h1⟩
  have HO := Lib.hid ho
  have H1 := Lib.hid h1
  have hgw := Lib.hid (ho.base_of g rfl).1
  clear ho h1
  go_wp2_with (fail)
  go_loopw [6, 7] (fun dd kk wr => ∃ (k d : Nat) (R : List (List Int)), k ≤ m ∧ d ≤ n ∧ kk = .int .i64 k ∧ dd = .int .i64 d ∧ Hid (gaussS p m rows k = (R, d)) ∧ OwnR w.heap.size wr (some ⟨g, 0, none⟩) n rc R ∧ Ext w wr) (fun _ kk _ => m - (intOf kk).toNat)
  case atStart => exact ⟨0, 0, rows, Nat.zero_le _, Nat.zero_le _, rfl, rfl, Lib.hid rfl, HO.out, H1.out⟩
  case round =>
    obtain ⟨k, d, R, hk, hd, rfl, rfl, HS, hown, hext⟩ := hrel
    have HOwn := Lib.hid hown
    have HExt := Lib.hid hext
    have HRL := Lib.hid hown.1
    have HRG : Hid (RowsG p m R) := Lib.hid (by have := (HRed.out k hk).1; rw [HS.out] at this; exact this)
    clear hown hext
    by_cases hfin : n = 0 ∨ k = m ∨ d = n
    · have HRes : Hid (R.take d = basisL p m rows) := Lib.hid (by
        unfold basisL
        rcases hfin with h | h | h
        · have hr : rows = [] := List.length_eq_zero_iff.1 (by rw [HLN.out]; exact h)
          have hR : R = [] := List.length_eq_zero_iff.1 (by rw [HRL.out]; exact h)
          have h2 : (gaussS p m rows m).1 = [] := List.length_eq_zero_iff.1 (by rw [gaussS_len, hr]; rfl)
          rw [hR, h2]; simp
        · have hS := HS.out
          rw [h] at hS
          rw [hS]
        · have := gaussS_stop (p := p) (m := m) (rows := rows) (k := k) (by rw [HS.out, HLN.out]; exact h) (m - k)
          rw [Nat.add_sub_cancel' hk] at this
          rw [this, HS.out])
      by_cases hn0 : n = 0
      · have hd0 : d = 0 := by omega
        subst hd0
        subst hn0
        go_wp2_with (fail)
        go_ret
        exact ⟨g, rc, 0, rfl, by rw [← HRes.out]; exact HOwn.out.take (Nat.le_refl _), HExt.out⟩
      · obtain ⟨a0, c0, hc0, _⟩ := HOwn.out.at (show 0 < n by omega)
        rw [ownR_put_len HRG.out HRL.out (show 0 < n by omega)] at hc0
        have hcap : n ≤ rc := by obtain ⟨_, vs, h2, _⟩ := HOwn.out; rcases h2.2 with ⟨h3, _⟩ | ⟨_, _, _, h3, _, _, h4, _⟩; cases h3; cases h3; exact h4
        have hdc : (d : Int) ≤ (rc : Int) := by omega
        by_cases hkm : k = m
        · subst hkm
          go_wp2_with (fail)
          go_ret
          exact ⟨g, rc, d, rfl, by rw [← HRes.out]; exact HOwn.out.take hd, HExt.out⟩
        · have hdn : d = n := by omega
          have hkm' : k < m := by omega
          subst hdn
          go_wp2_with (fail)
          go_ret
          exact ⟨g, rc, d, rfl, by rw [← HRes.out]; exact HOwn.out.take hd, HExt.out⟩
    · have hkm : k < m := by omega
      have hdn : d < n := by omega
      have hn0 : 0 < n := by omega
      clear hfin
      obtain ⟨a0, c0, hc0, _⟩ := HOwn.out.at hn0
      rw [ownR_put_len HRG.out HRL.out hn0] at hc0
      go_wp2_with (fail)
      clear hc0
      go_loop [8] (fun i => ∃ j : Nat, d ≤ j ∧ j ≤ n ∧ i = .int .i64 j ∧ Hid (∀ t, d ≤ t → t < j → nth (nthR R t) k = 0)) (fun i => n - (intOf i).toNat)
      case atStart => exact ⟨d, Nat.le_refl _, hd, rfl, Lib.hid (fun t h1 h2 => by omega)⟩
      case round =>
        obtain ⟨j, hdj, hj, rfl, HZ⟩ := hrel
        by_cases hjn : j < n
        · obtain ⟨aj, cj, hcj, hoj⟩ := HOwn.out.at hjn
          rw [ownR_put_len HRG.out HRL.out hjn] at hcj hoj
          obtain ⟨bj, oj, rfl, hcjk⟩ := hoj.rd.2 k hkm
          by_cases hz : nth (nthR R j) k = 0
          · have hzb : (nth (nthR R j) k == 0) = true := by simp [hz]
            have HZ' := Lib.hid hz
            clear hz hoj
            go_wp2_with (fail)
            go_round
            case rel => exact ⟨j + 1, by omega, by omega, by go_num, Lib.hid (fun t h1 h2 => by
              by_cases htj : t = j
              · subst htj; exact HZ'.out
              · exact HZ.out t h1 (by omega))⟩
            case measure => simp [intOf]; omega
          · have hzb : (nth (nthR R j) k == 0) = false := by simp [hz]
            have hjb : ((j : Int) == (n : Int)) = false := by simp; omega
            have HPiv := Lib.hid (pivG_eq (rows := R) (k := k) (d := d) hdj (by rw [HRL.out]; exact hj) HZ.out (.inr hz))
            have HNZ := Lib.hid hz
            clear hz hoj
            go_wp2_with (fail)
            clear hcj hcjk
            obtain ⟨ad, cd, aj2, cj2, hcd, hcj2, hod, hoj2, hsw⟩ := HOwn.out.swap hdn hjn
            rw [ownR_put_len HRG.out HRL.out hdn, ownR_put_len HRG.out HRL.out hjn] at hsw
            rw [ownR_put_len HRG.out HRL.out hdn] at hcd hod
            rw [ownR_put_len HRG.out HRL.out hjn] at hcj2 hoj2
            have hfd := HOwn.out.frozen d
            have hfj := HOwn.out.frozen j
            have HOd := Lib.hid hod
            have HOj := Lib.hid hoj2
            have HSw := Lib.hid hsw
            clear hod hoj2 hsw
            have HNM := Lib.hid (HOwn.out.base_of g rfl)
            by_cases hdj2 : d = j
            · subst hdj2
              cases (hcd.symm.trans hcj2)
              go_region
              obtain ⟨W2, hW2⟩ : ∃ W2, W2 = ((wr.setCell ⟨g, d, none⟩ (.slice ad m cd)).setCell ⟨g, d, none⟩ (.slice ad m cd)).drew := ⟨_, rfl⟩
              have HOw2 : Hid (OwnR w.heap.size W2 (some ⟨g, 0, none⟩) n rc (swapL R d d)) := by rw [hW2]; exact HSw.out.ext (ext_drew _)
              have HE2 : Hid (Ext w W2) := by rw [hW2]; exact (((HExt.out.setCell HNM.out.1 _).setCell HNM.out.1 _).trans (ext_drew _))
              rw [← hW2]
              clear hW2 hcd hcj2 hfd hfj HSw HOd HOj
              have HR1 := Lib.hid (swapL_at (show d < R.length by rw [HRL.out]; exact hdn) (show d < R.length by rw [HRL.out]; exact hjn))
              have HXg := Lib.hid (HRG.out d (by rw [HRL.out]; exact hjn))
              obtain ⟨ax, cx, hcx, hox⟩ := HOw2.out.at hdn
              rw [HR1.out, HXg.out.1] at hcx hox
              obtain ⟨bx, ox, rfl, hck⟩ := hox.rd.2 k hkm
              have HXc := Lib.hid ((ext_drew W2).cell hcx)
              have HXk := Lib.hid ((ext_drew W2).cell hck)
              have HXr := Lib.hid (hox.rd.ext (ext_drew W2))
              have HZb := Lib.hid (HXg.out.2 k hkm)
              have HIb : Hid (-1000 ≤ invN p (nth (nthR R d) k) ∧ invN p (nth (nthR R d) k) ≤ 1000) := Lib.hid (by have := invN_bd (p := p) (a := nth (nthR R d) k) (by omega); omega)
              clear hcx hck hox
              go_wp2_with (fail)
              refine wp_region_lex_tail 18 [(15, .val (.int .i64 (invN p (nth (nthR R d) k)))), (16, .ownS W2.drew.heap.size m (scaleL p (nthR R d) (invN p (nth (nthR R d) k)) m))] (by kernel_rfl) (by kernel_rfl) ?_
              simp only [List.take, List.drop]
              (refine LexW.pure (v := ?_) rfl rfl (fun w1 he => ?_) ?_; rotate_left; ( have e1 := he.cell HXc.out; have e2 := he.cell HXk.out; go_simp; rfl); simp only [Act.put, List.setIfInBounds_toArray, List.set_cons_zero, List.set_cons_succ])
              (refine LexW.pure (v := ?_) rfl rfl (fun w1 he => ?_) ?_; rotate_left; ( have e1 := he.cell HXc.out; have e2 := he.cell HXk.out; go_simp; rfl); simp only [Act.put, List.setIfInBounds_toArray, List.set_cons_zero, List.set_cons_succ])
              (refine LexW.pure (v := ?_) rfl rfl (fun w1 he => ?_) ?_; rotate_left; ( have e1 := he.cell HXc.out; have e2 := he.cell HXk.out; go_simp; rfl); simp only [Act.put, List.setIfInBounds_toArray, List.set_cons_zero, List.set_cons_succ])
              (refine LexW.pure (v := ?_) rfl rfl (fun w1 he => ?_) ?_; rotate_left; ( have e1 := he.cell HXc.out; have e2 := he.cell HXk.out; go_simp; rfl); simp only [Act.put, List.setIfInBounds_toArray, List.set_cons_zero, List.set_cons_succ])
              (refine LexW.pure (v := ?_) rfl rfl (fun w1 he => ?_) ?_; rotate_left; ( have e1 := he.cell HXc.out; have e2 := he.cell HXk.out; go_simp; rfl); simp only [Act.put, List.setIfInBounds_toArray, List.set_cons_zero, List.set_cons_succ])
              (refine LexW.pure (v := ?_) rfl rfl (fun w1 he => ?_) ?_; rotate_left; ( have e1 := he.cell HXc.out; have e2 := he.cell HXk.out; go_simp; rfl); simp only [Act.put, List.setIfInBounds_toArray, List.set_cons_zero, List.set_cons_succ])
              (refine LexW.pure (v := ?_) rfl rfl (fun w1 he => ?_) ?_; rotate_left; ( have e1 := he.cell HXc.out; have e2 := he.cell HXk.out; go_simp; rfl); simp only [Act.put, List.setIfInBounds_toArray, List.set_cons_zero, List.set_cons_succ])
              (refine LexW.pure (v := ?_) rfl rfl (fun w1 he => ?_) ?_; rotate_left; ( have e1 := he.cell HXc.out; have e2 := he.cell HXk.out; go_simp; rfl); simp only [Act.put, List.setIfInBounds_toArray, List.set_cons_zero, List.set_cons_succ])
              (refine LexW.pure (v := ?_) rfl rfl (fun w1 he => ?_) ?_; rotate_left; ( have e1 := he.cell HXc.out; have e2 := he.cell HXk.out; go_simp; rfl); simp only [Act.put, List.setIfInBounds_toArray, List.set_cons_zero, List.set_cons_succ])
              (refine LexW.pure (v := ?_) rfl rfl (fun w1 he => ?_) ?_; rotate_left; ( have e1 := he.cell HXc.out; have e2 := he.cell HXk.out; go_simp; rfl); simp only [Act.put, List.setIfInBounds_toArray, List.set_cons_zero, List.set_cons_succ])
              (refine LexW.pure (v := ?_) rfl rfl (fun w1 he => ?_) ?_; rotate_left; ( have e1 := he.cell HXc.out; have e2 := he.cell HXk.out; go_simp; rfl); simp only [Act.put, List.setIfInBounds_toArray, List.set_cons_zero, List.set_cons_succ])
              (refine LexW.pure (v := ?_) rfl rfl (fun w1 he => ?_) ?_; rotate_left; ( have e1 := he.cell HXc.out; have e2 := he.cell HXk.out; go_simp; rfl); simp only [Act.put, List.setIfInBounds_toArray, List.set_cons_zero, List.set_cons_succ])
              (refine LexW.pure (v := ?_) rfl rfl (fun w1 he => ?_) ?_; rotate_left; ( have e1 := he.cell HXc.out; have e2 := he.cell HXk.out; go_simp; rfl); simp only [Act.put, List.setIfInBounds_toArray, List.set_cons_zero, List.set_cons_succ])
              (refine LexW.pure (v := ?_) rfl rfl (fun w1 he => ?_) ?_; rotate_left; ( have e1 := he.cell HXc.out; have e2 := he.cell HXk.out; go_simp; rfl); simp only [Act.put, List.setIfInBounds_toArray, List.set_cons_zero, List.set_cons_succ])
              (refine LexW.pure (v := ?_) rfl rfl (fun w1 he => ?_) ?_; rotate_left; ( have e1 := he.cell HXc.out; have e2 := he.cell HXk.out; go_simp; rfl); simp only [Act.put, List.setIfInBounds_toArray, List.set_cons_zero, List.set_cons_succ])
              (refine LexW.call (f := ?_) (args := ?_) rfl rfl (fun w1 => ?_) (fun w1 he hdep => ?_) ?_; rotate_left 2; (go_simp; refine ⟨?_, ?_⟩ <;> rfl); ( exact c_inv p _ w1 (by omega) (by omega) HZb.out.1 HZb.out.2); simp only [Act.put, List.setIfInBounds_toArray, List.set_cons_zero, List.set_cons_succ])
              (refine LexW.callR (f := ?_) (args := ?_) rfl rfl (fun w1 => ?_) (fun w1 he hdep => ?_) (fun v hv => ?_); rotate_left 2; (go_simp; refine ⟨?_, ?_⟩ <;> rfl); ( refine (c_scaled p _ m _ (nthR R d) (invN p (nth (nthR R d) k)) w1 (by omega) (by omega) HIb.out (by omega) (HXr.out.ext he) HXg.out).mono ?_; rintro e w2 ⟨g, rc, rfl, ho, g2⟩; exact ⟨_, rfl, g2, g, rc, rfl, ho.mono he.size⟩); simp only [Act.put, List.setIfInBounds_toArray, List.set_cons_zero, List.set_cons_succ])
              obtain ⟨_, g82, c82, rfl, _⟩ := hv
              (refine LexW.pure (v := ?_) rfl rfl (fun w1 he => ?_) ?_; rotate_left; ( have e1 := he.cell HXc.out; have e2 := he.cell HXk.out; go_simp; rfl); simp only [Act.put, List.setIfInBounds_toArray, List.set_cons_zero, List.set_cons_succ])
              refine LexW.nil (fun w3 he hkn => ?_)
              obtain ⟨_, _, q82, r82⟩ : (SPred.ownS W2.drew.heap.size m (scaleL p (nthR R d) (invN p (nth (nthR R d) k)) m)).holds (.slice (some ⟨g82, 0, none⟩) m c82) w3 := hkn (16, _) (by simp)
              cases q82
              have R82 := Lib.hid r82
              have HE := Lib.hid he
              clear he hkn r82
              have ow3 := (HOw2.out.ext (ext_drew W2)).ext HE.out
              obtain ⟨ay, cy, hcy, _⟩ := ow3.at hdn
              have hfy := ow3.frozen d
              clear ow3
              go_wp2_with (fail)
              obtain ⟨W3, hW3⟩ : ∃ W3, W3 = w3.setCell ⟨g, d, none⟩ (.slice (some ⟨g82, 0, none⟩) m c82) := ⟨_, rfl⟩
              have HOw3 : Hid (OwnR w.heap.size W3 (some ⟨g, 0, none⟩) n rc (upG p m R d k d)) := by rw [hW3]; exact (HOw2.out.ext (ext_drew W2)).put HE.out (HE2.out.trans (ext_drew W2)).size R82.out hdn
              have HE3 : Hid (Ext w W3) := by rw [hW3]; exact (HE2.out.trans ((ext_drew W2).trans HE.out)).setCell HNM.out.1 _
              rw [← hW3]
              clear hW3 hcy hfy R82 HE HXc HXk HXr HOw2 HE2
              have HUG := Lib.hid (upG_good (k := k) (show 1 ≤ p by omega) HRG.out (show d < R.length by rw [HRL.out]; exact hdn) (show d < R.length by rw [HRL.out]; exact hjn))
              have HUL := Lib.hid (show (upG p m R d k d).length = n by rw [upG_len, HRL.out])
              obtain ⟨U, hU⟩ : ∃ U, U = upG p m R d k d := ⟨_, rfl⟩
              have HU := Lib.hid hU
              rw [← hU] at HOw3 HUG HUL
              clear hU
              go_loopw [86] (fun i wr => ∃ (r : Nat) (C : List (List Int)), r ≤ n ∧ i = .int .i64 r ∧ Hid (C = clrS p k m d U r) ∧ OwnR w.heap.size wr (some ⟨g, 0, none⟩) n rc C ∧ Ext w wr) (fun i _ => n - (intOf i).toNat)
              case atStart => exact ⟨0, U, Nat.zero_le _, rfl, Lib.hid rfl, HOw3.out, HE3.out⟩
              case round =>
                obtain ⟨r, C, hr, rfl, HC, hown, hext⟩ := hrel
                have HCo := Lib.hid hown
                have HCe := Lib.hid hext
                have HCg : Hid (RowsG p m C) := Lib.hid (by rw [HC.out]; exact clrS_good (by omega) HUG.out r)
                have HCl : Hid (C.length = n) := Lib.hid hown.1
                clear hown hext
                by_cases hrn : r < n
                · by_cases hrd : r = d
                  · have hrb : ((r : Int) != (d : Int)) = false := by simp [hrd]
                    have HRD := Lib.hid hrd
                    clear hrd
                    go_wp2_with (fail)
                    go_roundw
                    case rel => exact ⟨r + 1, C, by omega, by go_num, Lib.hid (by rw [HC.out, clrS_self HRD.out]), HCo.out, HCe.out⟩
                    case measure => simp [intOf]; omega
                  · have hrb : ((r : Int) != (d : Int)) = true := by simp; omega
                    obtain ⟨ar, cr, hcr, hor⟩ := HCo.out.at hrn
                    rw [ownR_put_len HCg.out HCl.out hrn] at hcr hor
                    obtain ⟨br, or, rfl, hcrk⟩ := hor.rd.2 k hkm
                    by_cases hz : nth (nthR C r) k = 0
                    · have hzb : (nth (nthR C r) k != 0) = false := by simp [hz]
                      have HZ0 := Lib.hid hz
                      clear hz hor
                      go_wp2_with (fail)
                      go_roundw
                      case rel => exact ⟨r + 1, C, by omega, by go_num, Lib.hid (by rw [clrS_zero (by omega) HUG.out (by rw [HUL.out]; exact hrn) (by rw [← HC.out]; exact HZ0.out)]; exact HC.out), HCo.out, HCe.out⟩
                      case measure => simp [intOf]; omega
                    · have hzb : (nth (nthR C r) k != 0) = true := by simp [hz]
                      have HRd0 := Lib.hid hrd
                      obtain ⟨ad2, cd2, hcd2, hod2⟩ := HCo.out.at hdn
                      rw [ownR_put_len HCg.out HCl.out hdn] at hcd2 hod2
                      have HRr := Lib.hid (hor.rd.ext (ext_drew wr))
                      have HRd := Lib.hid (hod2.rd.ext (ext_drew wr))
                      have HCr := Lib.hid ((ext_drew wr).cell hcr)
                      have HCd := Lib.hid ((ext_drew wr).cell hcd2)
                      have HCk := Lib.hid ((ext_drew wr).cell hcrk)
                      have HGr := Lib.hid (HCg.out r (by rw [HCl.out]; exact hrn))
                      have HGd := Lib.hid (HCg.out d (by rw [HCl.out]; exact hdn))
                      have HZr := Lib.hid (HGr.out.2 k hkm)
                      have HNeg : Hid (IntKind.i64.wrap (-(nth (nthR C r) k)) = -(nth (nthR C r) k)) := Lib.hid (IntWalk.i64_in _ (by have := HZr.out; omega))
                      clear hz hor hod2 hcd2
                      go_wp2_with (fail)
                      clear hcr hcrk
                      refine wp_region_lex_tail 21 [(19, .ownS wr.drew.heap.size m (plusL p (nthR C r) (nthR C d) (-(nth (nthR C r) k)) m))] (by kernel_rfl) (by kernel_rfl) ?_
                      simp only [List.take, List.drop]
                      (refine LexW.pure (v := ?_) rfl rfl (fun w1 he => ?_) ?_; rotate_left; ( have e1 := he.cell HCr.out; have e2 := he.cell HCd.out; have e3 := he.cell HCk.out; have e4 := HNeg.out; go_simp; rfl); simp only [Act.put, List.setIfInBounds_toArray, List.set_cons_zero, List.set_cons_succ])
                      (refine LexW.pure (v := ?_) rfl rfl (fun w1 he => ?_) ?_; rotate_left; ( have e1 := he.cell HCr.out; have e2 := he.cell HCd.out; have e3 := he.cell HCk.out; have e4 := HNeg.out; go_simp; rfl); simp only [Act.put, List.setIfInBounds_toArray, List.set_cons_zero, List.set_cons_succ])
                      (refine LexW.pure (v := ?_) rfl rfl (fun w1 he => ?_) ?_; rotate_left; ( have e1 := he.cell HCr.out; have e2 := he.cell HCd.out; have e3 := he.cell HCk.out; have e4 := HNeg.out; go_simp; rfl); simp only [Act.put, List.setIfInBounds_toArray, List.set_cons_zero, List.set_cons_succ])
                      (refine LexW.pure (v := ?_) rfl rfl (fun w1 he => ?_) ?_; rotate_left; ( have e1 := he.cell HCr.out; have e2 := he.cell HCd.out; have e3 := he.cell HCk.out; have e4 := HNeg.out; go_simp; rfl); simp only [Act.put, List.setIfInBounds_toArray, List.set_cons_zero, List.set_cons_succ])
                      (refine LexW.pure (v := ?_) rfl rfl (fun w1 he => ?_) ?_; rotate_left; ( have e1 := he.cell HCr.out; have e2 := he.cell HCd.out; have e3 := he.cell HCk.out; have e4 := HNeg.out; go_simp; rfl); simp only [Act.put, List.setIfInBounds_toArray, List.set_cons_zero, List.set_cons_succ])
                      (refine LexW.pure (v := ?_) rfl rfl (fun w1 he => ?_) ?_; rotate_left; ( have e1 := he.cell HCr.out; have e2 := he.cell HCd.out; have e3 := he.cell HCk.out; have e4 := HNeg.out; go_simp; rfl); simp only [Act.put, List.setIfInBounds_toArray, List.set_cons_zero, List.set_cons_succ])
                      (refine LexW.pure (v := ?_) rfl rfl (fun w1 he => ?_) ?_; rotate_left; ( have e1 := he.cell HCr.out; have e2 := he.cell HCd.out; have e3 := he.cell HCk.out; have e4 := HNeg.out; go_simp; rfl); simp only [Act.put, List.setIfInBounds_toArray, List.set_cons_zero, List.set_cons_succ])
                      (refine LexW.pure (v := ?_) rfl rfl (fun w1 he => ?_) ?_; rotate_left; ( have e1 := he.cell HCr.out; have e2 := he.cell HCd.out; have e3 := he.cell HCk.out; have e4 := HNeg.out; go_simp; rfl); simp only [Act.put, List.setIfInBounds_toArray, List.set_cons_zero, List.set_cons_succ])
                      (refine LexW.pure (v := ?_) rfl rfl (fun w1 he => ?_) ?_; rotate_left; ( have e1 := he.cell HCr.out; have e2 := he.cell HCd.out; have e3 := he.cell HCk.out; have e4 := HNeg.out; go_simp; rfl); simp only [Act.put, List.setIfInBounds_toArray, List.set_cons_zero, List.set_cons_succ])
                      (refine LexW.pure (v := ?_) rfl rfl (fun w1 he => ?_) ?_; rotate_left; ( have e1 := he.cell HCr.out; have e2 := he.cell HCd.out; have e3 := he.cell HCk.out; have e4 := HNeg.out; go_simp; rfl); simp only [Act.put, List.setIfInBounds_toArray, List.set_cons_zero, List.set_cons_succ])
                      (refine LexW.pure (v := ?_) rfl rfl (fun w1 he => ?_) ?_; rotate_left; ( have e1 := he.cell HCr.out; have e2 := he.cell HCd.out; have e3 := he.cell HCk.out; have e4 := HNeg.out; go_simp; rfl); simp only [Act.put, List.setIfInBounds_toArray, List.set_cons_zero, List.set_cons_succ])
                      (refine LexW.pure (v := ?_) rfl rfl (fun w1 he => ?_) ?_; rotate_left; ( have e1 := he.cell HCr.out; have e2 := he.cell HCd.out; have e3 := he.cell HCk.out; have e4 := HNeg.out; go_simp; rfl); simp only [Act.put, List.setIfInBounds_toArray, List.set_cons_zero, List.set_cons_succ])
                      (refine LexW.pure (v := ?_) rfl rfl (fun w1 he => ?_) ?_; rotate_left; ( have e1 := he.cell HCr.out; have e2 := he.cell HCd.out; have e3 := he.cell HCk.out; have e4 := HNeg.out; go_simp; rfl); simp only [Act.put, List.setIfInBounds_toArray, List.set_cons_zero, List.set_cons_succ])
                      (refine LexW.pure (v := ?_) rfl rfl (fun w1 he => ?_) ?_; rotate_left; ( have e1 := he.cell HCr.out; have e2 := he.cell HCd.out; have e3 := he.cell HCk.out; have e4 := HNeg.out; go_simp; rfl); simp only [Act.put, List.setIfInBounds_toArray, List.set_cons_zero, List.set_cons_succ])
                      (refine LexW.pure (v := ?_) rfl rfl (fun w1 he => ?_) ?_; rotate_left; ( have e1 := he.cell HCr.out; have e2 := he.cell HCd.out; have e3 := he.cell HCk.out; have e4 := HNeg.out; go_simp; rfl); simp only [Act.put, List.setIfInBounds_toArray, List.set_cons_zero, List.set_cons_succ])
                      (refine LexW.pure (v := ?_) rfl rfl (fun w1 he => ?_) ?_; rotate_left; ( have e1 := he.cell HCr.out; have e2 := he.cell HCd.out; have e3 := he.cell HCk.out; have e4 := HNeg.out; go_simp; rfl); simp only [Act.put, List.setIfInBounds_toArray, List.set_cons_zero, List.set_cons_succ])
                      (refine LexW.pure (v := ?_) rfl rfl (fun w1 he => ?_) ?_; rotate_left; ( have e1 := he.cell HCr.out; have e2 := he.cell HCd.out; have e3 := he.cell HCk.out; have e4 := HNeg.out; go_simp; rfl); simp only [Act.put, List.setIfInBounds_toArray, List.set_cons_zero, List.set_cons_succ])
                      (refine LexW.pure (v := ?_) rfl rfl (fun w1 he => ?_) ?_; rotate_left; ( have e1 := he.cell HCr.out; have e2 := he.cell HCd.out; have e3 := he.cell HCk.out; have e4 := HNeg.out; go_simp; rfl); simp only [Act.put, List.setIfInBounds_toArray, List.set_cons_zero, List.set_cons_succ])
                      (refine LexW.pure (v := ?_) rfl rfl (fun w1 he => ?_) ?_; rotate_left; ( have e1 := he.cell HCr.out; have e2 := he.cell HCd.out; have e3 := he.cell HCk.out; have e4 := HNeg.out; go_simp; rfl); simp only [Act.put, List.setIfInBounds_toArray, List.set_cons_zero, List.set_cons_succ])
                      (refine LexW.callR (f := ?_) (args := ?_) rfl rfl (fun w1 => ?_) (fun w1 he hdep => ?_) (fun v hv => ?_); rotate_left 2; (go_simp; refine ⟨?_, ?_⟩ <;> rfl); ( refine (c_plus p _ _ m _ _ (nthR C r) (nthR C d) (-(nth (nthR C r) k)) w1 (by omega) (by omega) (by have := HZr.out; omega) (by omega) (HRr.out.ext he) (HRd.out.ext he) HGr.out HGd.out).mono ?_; rintro e w2 ⟨g, rc, rfl, ho, g2⟩; exact ⟨_, rfl, g2, g, rc, rfl, ho.mono he.size⟩); simp only [Act.put, List.setIfInBounds_toArray, List.set_cons_zero, List.set_cons_succ])
                      obtain ⟨_, g121, c121, rfl, _⟩ := hv
                      (refine LexW.pure (v := ?_) rfl rfl (fun w1 he => ?_) ?_; rotate_left; ( have e1 := he.cell HCr.out; have e2 := he.cell HCd.out; have e3 := he.cell HCk.out; have e4 := HNeg.out; go_simp; rfl); simp only [Act.put, List.setIfInBounds_toArray, List.set_cons_zero, List.set_cons_succ])
                      refine LexW.nil (fun w3 he hkn => ?_)
                      obtain ⟨_, _, q121, r121⟩ : (SPred.ownS wr.drew.heap.size m (plusL p (nthR C r) (nthR C d) (-(nth (nthR C r) k)) m)).holds (.slice (some ⟨g121, 0, none⟩) m c121) w3 := hkn (19, _) (by simp)
                      cases q121
                      have R121 := Lib.hid r121
                      have HE := Lib.hid he
                      clear he hkn r121
                      have ow4 := (HCo.out.ext (ext_drew wr)).ext HE.out
                      obtain ⟨ay, cy, hcy, _⟩ := ow4.at hrn
                      have hfy := ow4.frozen r
                      clear ow4
                      go_wp2_with (fail)
                      go_roundw
                      case rel => exact ⟨r + 1, C.set r (plusL p (nthR C r) (nthR C d) (-(nth (nthR C r) k)) m), by omega, by go_num, Lib.hid (by rw [clrS_ne HRd0.out, ← HC.out]), (HCo.out.ext (ext_drew wr)).put HE.out (HCe.out.trans (ext_drew wr)).size R121.out hrn, (HCe.out.trans ((ext_drew wr).trans HE.out)).setCell HNM.out.1 _⟩
                      case measure => simp [intOf]; omega
                · obtain rfl : r = n := by omega
                  go_wp2_with (fail)
                  go_roundw
                  case rel => exact ⟨k + 1, d + 1, C, by omega, by omega, by go_num, by go_num, Lib.hid (by
                    show stepG p m (gaussS p m rows k) k = _
                    rw [HS.out, stepG_yes (s := (R, d)) HPiv.out (by rw [HRL.out]; exact hjn), HC.out, HU.out, HRL.out]), HCo.out, HCe.out⟩
                  case measure => simp [intOf]; omega
            · have hne : ¬ j = d := fun e => hdj2 e.symm
              go_region
              obtain ⟨W2, hW2⟩ : ∃ W2, W2 = ((wr.setCell ⟨g, d, none⟩ (.slice aj2 m cj2)).setCell ⟨g, j, none⟩ (.slice ad m cd)).drew := ⟨_, rfl⟩
              have HOw2 : Hid (OwnR w.heap.size W2 (some ⟨g, 0, none⟩) n rc (swapL R d j)) := by rw [hW2]; exact HSw.out.ext (ext_drew _)
              have HE2 : Hid (Ext w W2) := by rw [hW2]; exact (((HExt.out.setCell HNM.out.1 _).setCell HNM.out.1 _).trans (ext_drew _))
              rw [← hW2]
              clear hW2 hcd hcj2 hfd hfj HSw HOd HOj
              have HR1 := Lib.hid (swapL_at (show d < R.length by rw [HRL.out]; exact hdn) (show j < R.length by rw [HRL.out]; exact hjn))
              have HXg := Lib.hid (HRG.out j (by rw [HRL.out]; exact hjn))
              obtain ⟨ax, cx, hcx, hox⟩ := HOw2.out.at hdn
              rw [HR1.out, HXg.out.1] at hcx hox
              obtain ⟨bx, ox, rfl, hck⟩ := hox.rd.2 k hkm
              have HXc := Lib.hid ((ext_drew W2).cell hcx)
              have HXk := Lib.hid ((ext_drew W2).cell hck)
              have HXr := Lib.hid (hox.rd.ext (ext_drew W2))
              have HZb := Lib.hid (HXg.out.2 k hkm)
              have HIb : Hid (-1000 ≤ invN p (nth (nthR R j) k) ∧ invN p (nth (nthR R j) k) ≤ 1000) := Lib.hid (by have := invN_bd (p := p) (a := nth (nthR R j) k) (by omega); omega)
              clear hcx hck hox
              go_wp2_with (fail)
              refine wp_region_lex_tail 18 [(15, .val (.int .i64 (invN p (nth (nthR R j) k)))), (16, .ownS W2.drew.heap.size m (scaleL p (nthR R j) (invN p (nth (nthR R j) k)) m))] (by kernel_rfl) (by kernel_rfl) ?_
              simp only [List.take, List.drop]
              (refine LexW.pure (v := ?_) rfl rfl (fun w1 he => ?_) ?_; rotate_left; ( have e1 := he.cell HXc.out; have e2 := he.cell HXk.out; go_simp; rfl); simp only [Act.put, List.setIfInBounds_toArray, List.set_cons_zero, List.set_cons_succ])
              (refine LexW.pure (v := ?_) rfl rfl (fun w1 he => ?_) ?_; rotate_left; ( have e1 := he.cell HXc.out; have e2 := he.cell HXk.out; go_simp; rfl); simp only [Act.put, List.setIfInBounds_toArray, List.set_cons_zero, List.set_cons_succ])
              (refine LexW.pure (v := ?_) rfl rfl (fun w1 he => ?_) ?_; rotate_left; ( have e1 := he.cell HXc.out; have e2 := he.cell HXk.out; go_simp; rfl); simp only [Act.put, List.setIfInBounds_toArray, List.set_cons_zero, List.set_cons_succ])
              (refine LexW.pure (v := ?_) rfl rfl (fun w1 he => ?_) ?_; rotate_left; ( have e1 := he.cell HXc.out; have e2 := he.cell HXk.out; go_simp; rfl); simp only [Act.put, List.setIfInBounds_toArray, List.set_cons_zero, List.set_cons_succ])
              (refine LexW.pure (v := ?_) rfl rfl (fun w1 he => ?_) ?_; rotate_left; ( have e1 := he.cell HXc.out; have e2 := he.cell HXk.out; go_simp; rfl); simp only [Act.put, List.setIfInBounds_toArray, List.set_cons_zero, List.set_cons_succ])
              (refine LexW.pure (v := ?_) rfl rfl (fun w1 he => ?_) ?_; rotate_left; ( have e1 := he.cell HXc.out; have e2 := he.cell HXk.out; go_simp; rfl); simp only [Act.put, List.setIfInBounds_toArray, List.set_cons_zero, List.set_cons_succ])
              (refine LexW.pure (v := ?_) rfl rfl (fun w1 he => ?_) ?_; rotate_left; ( have e1 := he.cell HXc.out; have e2 := he.cell HXk.out; go_simp; rfl); simp only [Act.put, List.setIfInBounds_toArray, List.set_cons_zero, List.set_cons_succ])
              (refine LexW.pure (v := ?_) rfl rfl (fun w1 he => ?_) ?_; rotate_left; ( have e1 := he.cell HXc.out; have e2 := he.cell HXk.out; go_simp; rfl); simp only [Act.put, List.setIfInBounds_toArray, List.set_cons_zero, List.set_cons_succ])
              (refine LexW.pure (v := ?_) rfl rfl (fun w1 he => ?_) ?_; rotate_left; ( have e1 := he.cell HXc.out; have e2 := he.cell HXk.out; go_simp; rfl); simp only [Act.put, List.setIfInBounds_toArray, List.set_cons_zero, List.set_cons_succ])
              (refine LexW.pure (v := ?_) rfl rfl (fun w1 he => ?_) ?_; rotate_left; ( have e1 := he.cell HXc.out; have e2 := he.cell HXk.out; go_simp; rfl); simp only [Act.put, List.setIfInBounds_toArray, List.set_cons_zero, List.set_cons_succ])
              (refine LexW.pure (v := ?_) rfl rfl (fun w1 he => ?_) ?_; rotate_left; ( have e1 := he.cell HXc.out; have e2 := he.cell HXk.out; go_simp; rfl); simp only [Act.put, List.setIfInBounds_toArray, List.set_cons_zero, List.set_cons_succ])
              (refine LexW.pure (v := ?_) rfl rfl (fun w1 he => ?_) ?_; rotate_left; ( have e1 := he.cell HXc.out; have e2 := he.cell HXk.out; go_simp; rfl); simp only [Act.put, List.setIfInBounds_toArray, List.set_cons_zero, List.set_cons_succ])
              (refine LexW.pure (v := ?_) rfl rfl (fun w1 he => ?_) ?_; rotate_left; ( have e1 := he.cell HXc.out; have e2 := he.cell HXk.out; go_simp; rfl); simp only [Act.put, List.setIfInBounds_toArray, List.set_cons_zero, List.set_cons_succ])
              (refine LexW.pure (v := ?_) rfl rfl (fun w1 he => ?_) ?_; rotate_left; ( have e1 := he.cell HXc.out; have e2 := he.cell HXk.out; go_simp; rfl); simp only [Act.put, List.setIfInBounds_toArray, List.set_cons_zero, List.set_cons_succ])
              (refine LexW.pure (v := ?_) rfl rfl (fun w1 he => ?_) ?_; rotate_left; ( have e1 := he.cell HXc.out; have e2 := he.cell HXk.out; go_simp; rfl); simp only [Act.put, List.setIfInBounds_toArray, List.set_cons_zero, List.set_cons_succ])
              (refine LexW.call (f := ?_) (args := ?_) rfl rfl (fun w1 => ?_) (fun w1 he hdep => ?_) ?_; rotate_left 2; (go_simp; refine ⟨?_, ?_⟩ <;> rfl); ( exact c_inv p _ w1 (by omega) (by omega) HZb.out.1 HZb.out.2); simp only [Act.put, List.setIfInBounds_toArray, List.set_cons_zero, List.set_cons_succ])
              (refine LexW.callR (f := ?_) (args := ?_) rfl rfl (fun w1 => ?_) (fun w1 he hdep => ?_) (fun v hv => ?_); rotate_left 2; (go_simp; refine ⟨?_, ?_⟩ <;> rfl); ( refine (c_scaled p _ m _ (nthR R j) (invN p (nth (nthR R j) k)) w1 (by omega) (by omega) HIb.out (by omega) (HXr.out.ext he) HXg.out).mono ?_; rintro e w2 ⟨g, rc, rfl, ho, g2⟩; exact ⟨_, rfl, g2, g, rc, rfl, ho.mono he.size⟩); simp only [Act.put, List.setIfInBounds_toArray, List.set_cons_zero, List.set_cons_succ])
              obtain ⟨_, g82, c82, rfl, _⟩ := hv
              (refine LexW.pure (v := ?_) rfl rfl (fun w1 he => ?_) ?_; rotate_left; ( have e1 := he.cell HXc.out; have e2 := he.cell HXk.out; go_simp; rfl); simp only [Act.put, List.setIfInBounds_toArray, List.set_cons_zero, List.set_cons_succ])
              refine LexW.nil (fun w3 he hkn => ?_)
              obtain ⟨_, _, q82, r82⟩ : (SPred.ownS W2.drew.heap.size m (scaleL p (nthR R j) (invN p (nth (nthR R j) k)) m)).holds (.slice (some ⟨g82, 0, none⟩) m c82) w3 := hkn (16, _) (by simp)
              cases q82
              have R82 := Lib.hid r82
              have HE := Lib.hid he
              clear he hkn r82
              have ow3 := (HOw2.out.ext (ext_drew W2)).ext HE.out
              obtain ⟨ay, cy, hcy, _⟩ := ow3.at hdn
              have hfy := ow3.frozen d
              clear ow3
              go_wp2_with (fail)
              obtain ⟨W3, hW3⟩ : ∃ W3, W3 = w3.setCell ⟨g, d, none⟩ (.slice (some ⟨g82, 0, none⟩) m c82) := ⟨_, rfl⟩
              have HOw3 : Hid (OwnR w.heap.size W3 (some ⟨g, 0, none⟩) n rc (upG p m R d k j)) := by rw [hW3]; exact (HOw2.out.ext (ext_drew W2)).put HE.out (HE2.out.trans (ext_drew W2)).size R82.out hdn
              have HE3 : Hid (Ext w W3) := by rw [hW3]; exact (HE2.out.trans ((ext_drew W2).trans HE.out)).setCell HNM.out.1 _
              rw [← hW3]
              clear hW3 hcy hfy R82 HE HXc HXk HXr HOw2 HE2
              have HUG := Lib.hid (upG_good (k := k) (show 1 ≤ p by omega) HRG.out (show d < R.length by rw [HRL.out]; exact hdn) (show j < R.length by rw [HRL.out]; exact hjn))
              have HUL := Lib.hid (show (upG p m R d k j).length = n by rw [upG_len, HRL.out])
              obtain ⟨U, hU⟩ : ∃ U, U = upG p m R d k j := ⟨_, rfl⟩
              have HU := Lib.hid hU
              rw [← hU] at HOw3 HUG HUL
              clear hU
              go_loopw [86] (fun i wr => ∃ (r : Nat) (C : List (List Int)), r ≤ n ∧ i = .int .i64 r ∧ Hid (C = clrS p k m d U r) ∧ OwnR w.heap.size wr (some ⟨g, 0, none⟩) n rc C ∧ Ext w wr) (fun i _ => n - (intOf i).toNat)
              case atStart => exact ⟨0, U, Nat.zero_le _, rfl, Lib.hid rfl, HOw3.out, HE3.out⟩
              case round =>
                obtain ⟨r, C, hr, rfl, HC, hown, hext⟩ := hrel
                have HCo := Lib.hid hown
                have HCe := Lib.hid hext
                have HCg : Hid (RowsG p m C) := Lib.hid (by rw [HC.out]; exact clrS_good (by omega) HUG.out r)
                have HCl : Hid (C.length = n) := Lib.hid hown.1
                clear hown hext
                by_cases hrn : r < n
                · by_cases hrd : r = d
                  · have hrb : ((r : Int) != (d : Int)) = false := by simp [hrd]
                    have HRD := Lib.hid hrd
                    clear hrd
                    go_wp2_with (fail)
                    go_roundw
                    case rel => exact ⟨r + 1, C, by omega, by go_num, Lib.hid (by rw [HC.out, clrS_self HRD.out]), HCo.out, HCe.out⟩
                    case measure => simp [intOf]; omega
                  · have hrb : ((r : Int) != (d : Int)) = true := by simp; omega
                    obtain ⟨ar, cr, hcr, hor⟩ := HCo.out.at hrn
                    rw [ownR_put_len HCg.out HCl.out hrn] at hcr hor
                    obtain ⟨br, or, rfl, hcrk⟩ := hor.rd.2 k hkm
                    by_cases hz : nth (nthR C r) k = 0
                    · have hzb : (nth (nthR C r) k != 0) = false := by simp [hz]
                      have HZ0 := Lib.hid hz
                      clear hz hor
                      go_wp2_with (fail)
                      go_roundw
                      case rel => exact ⟨r + 1, C, by omega, by go_num, Lib.hid (by rw [clrS_zero (by omega) HUG.out (by rw [HUL.out]; exact hrn) (by rw [← HC.out]; exact HZ0.out)]; exact HC.out), HCo.out, HCe.out⟩
                      case measure => simp [intOf]; omega
                    · have hzb : (nth (nthR C r) k != 0) = true := by simp [hz]
                      have HRd0 := Lib.hid hrd
                      obtain ⟨ad2, cd2, hcd2, hod2⟩ := HCo.out.at hdn
                      rw [ownR_put_len HCg.out HCl.out hdn] at hcd2 hod2
                      have HRr := Lib.hid (hor.rd.ext (ext_drew wr))
                      have HRd := Lib.hid (hod2.rd.ext (ext_drew wr))
                      have HCr := Lib.hid ((ext_drew wr).cell hcr)
                      have HCd := Lib.hid ((ext_drew wr).cell hcd2)
                      have HCk := Lib.hid ((ext_drew wr).cell hcrk)
                      have HGr := Lib.hid (HCg.out r (by rw [HCl.out]; exact hrn))
                      have HGd := Lib.hid (HCg.out d (by rw [HCl.out]; exact hdn))
                      have HZr := Lib.hid (HGr.out.2 k hkm)
                      have HNeg : Hid (IntKind.i64.wrap (-(nth (nthR C r) k)) = -(nth (nthR C r) k)) := Lib.hid (IntWalk.i64_in _ (by have := HZr.out; omega))
                      clear hz hor hod2 hcd2
                      go_wp2_with (fail)
                      clear hcr hcrk
                      refine wp_region_lex_tail 21 [(19, .ownS wr.drew.heap.size m (plusL p (nthR C r) (nthR C d) (-(nth (nthR C r) k)) m))] (by kernel_rfl) (by kernel_rfl) ?_
                      simp only [List.take, List.drop]
                      (refine LexW.pure (v := ?_) rfl rfl (fun w1 he => ?_) ?_; rotate_left; ( have e1 := he.cell HCr.out; have e2 := he.cell HCd.out; have e3 := he.cell HCk.out; have e4 := HNeg.out; go_simp; rfl); simp only [Act.put, List.setIfInBounds_toArray, List.set_cons_zero, List.set_cons_succ])
                      (refine LexW.pure (v := ?_) rfl rfl (fun w1 he => ?_) ?_; rotate_left; ( have e1 := he.cell HCr.out; have e2 := he.cell HCd.out; have e3 := he.cell HCk.out; have e4 := HNeg.out; go_simp; rfl); simp only [Act.put, List.setIfInBounds_toArray, List.set_cons_zero, List.set_cons_succ])
                      (refine LexW.pure (v := ?_) rfl rfl (fun w1 he => ?_) ?_; rotate_left; ( have e1 := he.cell HCr.out; have e2 := he.cell HCd.out; have e3 := he.cell HCk.out; have e4 := HNeg.out; go_simp; rfl); simp only [Act.put, List.setIfInBounds_toArray, List.set_cons_zero, List.set_cons_succ])
                      (refine LexW.pure (v := ?_) rfl rfl (fun w1 he => ?_) ?_; rotate_left; ( have e1 := he.cell HCr.out; have e2 := he.cell HCd.out; have e3 := he.cell HCk.out; have e4 := HNeg.out; go_simp; rfl); simp only [Act.put, List.setIfInBounds_toArray, List.set_cons_zero, List.set_cons_succ])
                      (refine LexW.pure (v := ?_) rfl rfl (fun w1 he => ?_) ?_; rotate_left; ( have e1 := he.cell HCr.out; have e2 := he.cell HCd.out; have e3 := he.cell HCk.out; have e4 := HNeg.out; go_simp; rfl); simp only [Act.put, List.setIfInBounds_toArray, List.set_cons_zero, List.set_cons_succ])
                      (refine LexW.pure (v := ?_) rfl rfl (fun w1 he => ?_) ?_; rotate_left; ( have e1 := he.cell HCr.out; have e2 := he.cell HCd.out; have e3 := he.cell HCk.out; have e4 := HNeg.out; go_simp; rfl); simp only [Act.put, List.setIfInBounds_toArray, List.set_cons_zero, List.set_cons_succ])
                      (refine LexW.pure (v := ?_) rfl rfl (fun w1 he => ?_) ?_; rotate_left; ( have e1 := he.cell HCr.out; have e2 := he.cell HCd.out; have e3 := he.cell HCk.out; have e4 := HNeg.out; go_simp; rfl); simp only [Act.put, List.setIfInBounds_toArray, List.set_cons_zero, List.set_cons_succ])
                      (refine LexW.pure (v := ?_) rfl rfl (fun w1 he => ?_) ?_; rotate_left; ( have e1 := he.cell HCr.out; have e2 := he.cell HCd.out; have e3 := he.cell HCk.out; have e4 := HNeg.out; go_simp; rfl); simp only [Act.put, List.setIfInBounds_toArray, List.set_cons_zero, List.set_cons_succ])
                      (refine LexW.pure (v := ?_) rfl rfl (fun w1 he => ?_) ?_; rotate_left; ( have e1 := he.cell HCr.out; have e2 := he.cell HCd.out; have e3 := he.cell HCk.out; have e4 := HNeg.out; go_simp; rfl); simp only [Act.put, List.setIfInBounds_toArray, List.set_cons_zero, List.set_cons_succ])
                      (refine LexW.pure (v := ?_) rfl rfl (fun w1 he => ?_) ?_; rotate_left; ( have e1 := he.cell HCr.out; have e2 := he.cell HCd.out; have e3 := he.cell HCk.out; have e4 := HNeg.out; go_simp; rfl); simp only [Act.put, List.setIfInBounds_toArray, List.set_cons_zero, List.set_cons_succ])
                      (refine LexW.pure (v := ?_) rfl rfl (fun w1 he => ?_) ?_; rotate_left; ( have e1 := he.cell HCr.out; have e2 := he.cell HCd.out; have e3 := he.cell HCk.out; have e4 := HNeg.out; go_simp; rfl); simp only [Act.put, List.setIfInBounds_toArray, List.set_cons_zero, List.set_cons_succ])
                      (refine LexW.pure (v := ?_) rfl rfl (fun w1 he => ?_) ?_; rotate_left; ( have e1 := he.cell HCr.out; have e2 := he.cell HCd.out; have e3 := he.cell HCk.out; have e4 := HNeg.out; go_simp; rfl); simp only [Act.put, List.setIfInBounds_toArray, List.set_cons_zero, List.set_cons_succ])
                      (refine LexW.pure (v := ?_) rfl rfl (fun w1 he => ?_) ?_; rotate_left; ( have e1 := he.cell HCr.out; have e2 := he.cell HCd.out; have e3 := he.cell HCk.out; have e4 := HNeg.out; go_simp; rfl); simp only [Act.put, List.setIfInBounds_toArray, List.set_cons_zero, List.set_cons_succ])
                      (refine LexW.pure (v := ?_) rfl rfl (fun w1 he => ?_) ?_; rotate_left; ( have e1 := he.cell HCr.out; have e2 := he.cell HCd.out; have e3 := he.cell HCk.out; have e4 := HNeg.out; go_simp; rfl); simp only [Act.put, List.setIfInBounds_toArray, List.set_cons_zero, List.set_cons_succ])
                      (refine LexW.pure (v := ?_) rfl rfl (fun w1 he => ?_) ?_; rotate_left; ( have e1 := he.cell HCr.out; have e2 := he.cell HCd.out; have e3 := he.cell HCk.out; have e4 := HNeg.out; go_simp; rfl); simp only [Act.put, List.setIfInBounds_toArray, List.set_cons_zero, List.set_cons_succ])
                      (refine LexW.pure (v := ?_) rfl rfl (fun w1 he => ?_) ?_; rotate_left; ( have e1 := he.cell HCr.out; have e2 := he.cell HCd.out; have e3 := he.cell HCk.out; have e4 := HNeg.out; go_simp; rfl); simp only [Act.put, List.setIfInBounds_toArray, List.set_cons_zero, List.set_cons_succ])
                      (refine LexW.pure (v := ?_) rfl rfl (fun w1 he => ?_) ?_; rotate_left; ( have e1 := he.cell HCr.out; have e2 := he.cell HCd.out; have e3 := he.cell HCk.out; have e4 := HNeg.out; go_simp; rfl); simp only [Act.put, List.setIfInBounds_toArray, List.set_cons_zero, List.set_cons_succ])
                      (refine LexW.pure (v := ?_) rfl rfl (fun w1 he => ?_) ?_; rotate_left; ( have e1 := he.cell HCr.out; have e2 := he.cell HCd.out; have e3 := he.cell HCk.out; have e4 := HNeg.out; go_simp; rfl); simp only [Act.put, List.setIfInBounds_toArray, List.set_cons_zero, List.set_cons_succ])
                      (refine LexW.pure (v := ?_) rfl rfl (fun w1 he => ?_) ?_; rotate_left; ( have e1 := he.cell HCr.out; have e2 := he.cell HCd.out; have e3 := he.cell HCk.out; have e4 := HNeg.out; go_simp; rfl); simp only [Act.put, List.setIfInBounds_toArray, List.set_cons_zero, List.set_cons_succ])
                      (refine LexW.callR (f := ?_) (args := ?_) rfl rfl (fun w1 => ?_) (fun w1 he hdep => ?_) (fun v hv => ?_); rotate_left 2; (go_simp; refine ⟨?_, ?_⟩ <;> rfl); ( refine (c_plus p _ _ m _ _ (nthR C r) (nthR C d) (-(nth (nthR C r) k)) w1 (by omega) (by omega) (by have := HZr.out; omega) (by omega) (HRr.out.ext he) (HRd.out.ext he) HGr.out HGd.out).mono ?_; rintro e w2 ⟨g, rc, rfl, ho, g2⟩; exact ⟨_, rfl, g2, g, rc, rfl, ho.mono he.size⟩); simp only [Act.put, List.setIfInBounds_toArray, List.set_cons_zero, List.set_cons_succ])
                      obtain ⟨_, g121, c121, rfl, _⟩ := hv
                      (refine LexW.pure (v := ?_) rfl rfl (fun w1 he => ?_) ?_; rotate_left; ( have e1 := he.cell HCr.out; have e2 := he.cell HCd.out; have e3 := he.cell HCk.out; have e4 := HNeg.out; go_simp; rfl); simp only [Act.put, List.setIfInBounds_toArray, List.set_cons_zero, List.set_cons_succ])
                      refine LexW.nil (fun w3 he hkn => ?_)
                      obtain ⟨_, _, q121, r121⟩ : (SPred.ownS wr.drew.heap.size m (plusL p (nthR C r) (nthR C d) (-(nth (nthR C r) k)) m)).holds (.slice (some ⟨g121, 0, none⟩) m c121) w3 := hkn (19, _) (by simp)
                      cases q121
                      have R121 := Lib.hid r121
                      have HE := Lib.hid he
                      clear he hkn r121
                      have ow4 := (HCo.out.ext (ext_drew wr)).ext HE.out
                      obtain ⟨ay, cy, hcy, _⟩ := ow4.at hrn
                      have hfy := ow4.frozen r
                      clear ow4
                      go_wp2_with (fail)
                      go_roundw
                      case rel => exact ⟨r + 1, C.set r (plusL p (nthR C r) (nthR C d) (-(nth (nthR C r) k)) m), by omega, by go_num, Lib.hid (by rw [clrS_ne HRd0.out, ← HC.out]), (HCo.out.ext (ext_drew wr)).put HE.out (HCe.out.trans (ext_drew wr)).size R121.out hrn, (HCe.out.trans ((ext_drew wr).trans HE.out)).setCell HNM.out.1 _⟩
                      case measure => simp [intOf]; omega
                · obtain rfl : r = n := by omega
                  go_wp2_with (fail)
                  go_roundw
                  case rel => exact ⟨k + 1, d + 1, C, by omega, by omega, by go_num, by go_num, Lib.hid (by
                    show stepG p m (gaussS p m rows k) k = _
                    rw [HS.out, stepG_yes (s := (R, d)) HPiv.out (by rw [HRL.out]; exact hjn), HC.out, HU.out, HRL.out]), HCo.out, HCe.out⟩
                  case measure => simp [intOf]; omega
        · have hjb : ((j : Int) == (n : Int)) = true := by simp; omega
          have HPiv := Lib.hid (pivG_eq (rows := R) (k := k) (d := d) hdj (by rw [HRL.out]; exact hj) HZ.out (.inl (by rw [HRL.out]; omega)))
          go_wp2_with (fail)
          go_roundw
          case rel => exact ⟨k + 1, d, R, by omega, hd, by go_num, rfl, Lib.hid (by
            show stepG p m (gaussS p m rows k) k = _
            rw [HS.out]
            exact stepG_no (s := (R, d)) (by rw [HPiv.out, HRL.out]; omega)), HOwn.out, HExt.out⟩
          case measure => simp [intOf]; omega
end Go.Proofs.Ytnabpmafcflljaa

/-
  append of a row to rows that may be the empty ones made at the start.
  No condition.
-/
namespace Go.Proofs.Ytnabpmafcflljaa
set_option maxRecDepth 100000
open Go.RowKit

/-- Rows of the call's own, as a value. -/
def SPred.ownR (B n : Nat) (rows : List (List Int)) : SPred := ⟨fun v w => ∃ g cap, v = .slice (some ⟨g, 0, none⟩) n cap ∧ OwnR B w (some ⟨g, 0, none⟩) n cap rows, fun _ _ _ ⟨g, cap, hv, h⟩ he => ⟨g, cap, hv, h.ext he⟩⟩
/-- Rows of the call's own from block B on, or the empty rows that were made at the start. -/
def OwnW (B : Nat) (w : World) (a : Option Addr) (n cap : Nat) (rows : List (List Int)) : Prop :=
  (n = 0 ∧ cap = 0 ∧ rows = [] ∧ ∃ g, a = some ⟨g, 0, none⟩) ∨ OwnR B w a n cap rows
theorem OwnW.start (B g : Nat) (w : World) : OwnW B w (some ⟨g, 0, none⟩) 0 0 [] := .inl ⟨rfl, rfl, rfl, g, rfl⟩
theorem OwnW.strong {B : Nat} {w : World} {a : Option Addr} {n cap : Nat} {rows : List (List Int)} (h : OwnW B w a n cap rows) (hn : 0 < n) : OwnR B w a n cap rows := by
  rcases h with ⟨h, _⟩ | h
  · omega
  · exact h
theorem OwnW.rd {B : Nat} {w : World} {a : Option Addr} {n cap : Nat} {rows : List (List Int)} (h : OwnW B w a n cap rows) : RdR w a n rows := by
  rcases h with ⟨rfl, _, rfl, _⟩ | h
  · exact ⟨rfl, fun i hi => by omega⟩
  · exact h.rd
theorem OwnW.len {B : Nat} {w : World} {a : Option Addr} {n cap : Nat} {rows : List (List Int)} (h : OwnW B w a n cap rows) : rows.length = n := by
  rcases h with ⟨rfl, _, rfl, _⟩ | h
  · rfl
  · exact h.1
/-- The rows of a call that began in a world whose blocks are all below. -/
theorem OwnW.own {B B' : Nat} {w : World} {a : Option Addr} {n cap : Nat} {rows : List (List Int)} (h : OwnW B w a n cap rows) (hb : B' ≤ B) (h0 : OwnR B' w a 0 0 [] ∨ 0 < n) : OwnR B' w a n cap rows := by
  rcases h with ⟨rfl, rfl, rfl, _⟩ | h
  · rcases h0 with h0 | h0
    · exact h0
    · omega
  · exact h.mono hb

theorem append_empty (w : World) (b : Addr) (t : Addr) (v : Value) (c : Nat) (ty : TypeId) (hc : w.cell? (t.add 0) = some v) :
    (Builtin.append_ #[25, 25] ty #[.slice (some b) 0 0, .slice (some t) 1 c]).run Try.prog w =
    (Builtin.append_ #[25, 25] ty #[.slice none 0 0, .slice (some t) 1 c]).run Try.prog w := by
  obtain ⟨i0, hi, hz0, hz1, hz2⟩ := info_parts Try.infoR
  have hn : ∀ j u, [v][j]? = some u → w.cell? (t.add j) = some u := fun j u hj => by
    cases j with
    | zero => simp only [List.getElem?_cons_zero, Option.some.injEq] at hj; subst hj; exact hc
    | succ j => simp at hj
  have e : Builtin.nextslicecap (0 + 1) 0 * i0.bytes ≤ 281474976710656 := by
    rw [hz2]; decide
  rw [run_append_grow (P := Try.prog) w 25 ty 22 i0 (.slice none 0 0) Try.underlying25 hi hz0 b 0 0 [] (by simp) (fun j u hj => by simp at hj) t 1 c [v] (by simp [hz1]) hn (by omega) (by omega) e,
    run_append_nil (P := Try.prog) w 25 ty 22 i0 (.slice none 0 0) Try.underlying25 hi hz0 t 1 c [v] (by simp [hz1]) hn (by omega) (by omega) (by rw [hz2]; omega)]
  simp

theorem run_pushRW {B : Nat} {w0 w : World} {ra : Option Addr} {n cap : Nat} {rows : List (List Int)} {b : Option Addr} {m c : Nat} {xs : List Int} {g : Nat} (hown : OwnW B w0 ra n cap rows) (he : Ext w0 w) (hc : w.cell? ⟨g, 0, none⟩ = some (.slice b m c)) (hx : OwnC w0.heap.size w b m c xs) (hn : n ≤ 4194304) (hB : B ≤ w0.heap.size) (ty : TypeId) :
    ∃ g' cap' w', (Builtin.append_ #[25, 25] ty #[.slice ra n cap, .slice (some ⟨g, 0, none⟩) 1 1]).run Try.prog w = .ok (.slice (some ⟨g', 0, none⟩) (n + 1) cap') w' ∧
      OwnR B w' (some ⟨g', 0, none⟩) (n + 1) cap' (rows ++ [xs]) ∧ (∀ W : World, W.heap.size ≤ B → Ext W w → Ext W w') := by
  rcases hown with ⟨rfl, rfl, rfl, g0, rfl⟩ | hown
  · obtain ⟨g', cap', w', h1, h2, _, h4⟩ := run_pushR (OwnR.nil B w0) he hc hx hn hB ty
    exact ⟨g', cap', w', by rw [append_empty w _ _ (.slice b m c) 1 ty (by simpa [Addr.add] using hc)]; exact h1, h2, h4⟩
  · obtain ⟨g', cap', w', h1, h2, _, h4⟩ := run_pushR hown he hc hx hn hB ty
    exact ⟨g', cap', w', h1, h2, h4⟩

theorem wpList_pushRW {ops : Array Oper} {rest : List Oper} {o : Oper} {a : Act} {Q : Exit → Act → World → Prop} {w0 w : World} (hgd : o.guard = none) (s x : Operand)
    (ho : o.op = .call { callee := .builtin .append, args := #[s, x], argTypes := #[25, 25] })
    {B : Nat} {ra : Option Addr} {n cap : Nat} {rows : List (List Int)} {b : Option Addr} {m c : Nat} {xs : List Int} {g : Nat} (hs : a.eval s = .slice ra n cap) (hx : a.eval x = .slice (some ⟨g, 0, none⟩) 1 1)
    (hown : OwnW B w0 ra n cap rows) (he : Ext w0 w) (hxs : OwnC w0.heap.size w b m c xs) (hc : w.cell? ⟨g, 0, none⟩ = some (.slice b m c)) (hn : n ≤ 4194304) (hB : B ≤ w0.heap.size)
    (h : ∀ g' cap' w', OwnR B w' (some ⟨g', 0, none⟩) (n + 1) cap' (rows ++ [xs]) → (∀ W : World, W.heap.size ≤ B → Ext W w → Ext W w') →
      wpList Try.prog ops Q rest (a.put o.dst (.slice (some ⟨g', 0, none⟩) (n + 1) cap')) w') : wpList Try.prog ops Q (o :: rest) a w := by
  refine wpList_plain hgd fun K hK => ?_
  obtain ⟨g', cap', w', hr, h1, h3⟩ := run_pushRW hown he hc hxs hn hB o.type
  unfold Oper.wp execOp
  simp only [ho, resolve, invoke, builtin, Sem.run_bind, Sem.run_pure, Result.andThen_ok, List.map_toArray, List.map_cons, List.map_nil, hs, hx, hr]
  exact hK _ _ (h g' cap' w' h1 h3)

end Go.Proofs.Ytnabpmafcflljaa

/-
  Contract: multiples of lists, in the reference; a row brought up by two stores with calls between.
  No condition.
-/
namespace Go.Proofs.Ytnabpmafcflljaa
set_option maxRecDepth 100000
open Go.RowKit

set_option maxHeartbeats 1000000 in
theorem s_scale (p : Int) (ax : Option Addr) (n cx : Nat) (x : List Int) (k : Int) (w : World) (hp1 : 3 ≤ p) (hp2 : p ≤ 1000) (hk : 0 ≤ k ∧ k ≤ 1000) (hn : n ≤ 4194303) (hx : RdC w ax n x) (hgx : Good p n x) :
    Calls Try.prog 119 #[.int .i64 p, .slice ax n cx, .int .i64 k] w fun e w' => ∃ g rc, e = .returned (.slice (some ⟨g, 0, none⟩) n rc) ∧ OwnC w.heap.size w' (some ⟨g, 0, none⟩) n rc (scaleL p x k n) ∧ Ext w w' := by
  have hpz : ¬ p = 0 := by omega
  have HX := Lib.hid hx
  have HGX := Lib.hid hgx
  clear hx hgx
  go_enter Try.func119, Try.ntmps119
  go_wp2_with (fail)
  go_loopw [7, 8] (fun v i wr => ∃ (j g rc : Nat), j ≤ n ∧ i = .int .i64 j ∧ v = .slice (some ⟨g, 0, none⟩) j rc ∧ OwnC w.heap.size wr (some ⟨g, 0, none⟩) j rc (scaleL p x k j) ∧ Ext w wr) (fun _ i _ => n - (intOf i).toNat)
  case atStart => exact ⟨0, _, _, Nat.zero_le _, rfl, rfl, own_empty w, ext_alloc _ _⟩
  case round =>
    obtain ⟨j, g, rc, hj, rfl, rfl, hown, hext⟩ := hrel
    have HOwn := Lib.hid hown
    have HExt := Lib.hid hext
    clear hown hext
    by_cases hlt : j < n
    · obtain ⟨bx, ox, rfl, hcx⟩ := HX.out.2 j hlt
      have hcx' := HExt.out.cell hcx
      have hbx := HGX.out.2 j hlt
      have hkb := kmul_bd ⟨by omega, hk.2⟩ hbx.1 (show nth x j ≤ 1000 by omega)
      rw [Int.mul_comm] at hkb
      have hkn : 0 ≤ nth x j * k := Int.mul_nonneg hbx.1 hk.1
      have hw1 : IntKind.i64.wrap (nth x j * k) = nth x j * k := IntWalk.i64_in _ (by omega)
      have hw3 : (nth x j * k).tmod p = scaleN p x k j := Int.tmod_eq_emod_of_nonneg hkn
      clear hcx
      go_wp2_with (at_builtin; refine wpList_push rfl (.tmp 16) (.tmp 25) rfl rfl rfl (v := scaleN p x k j) (HOwn.out.ext (ext_alloc _ _)) ?hc ?hn ?hB ?hk)
      case hc => simp [scaleN]
      case hn => omega
      case hB => have hz := HExt.out.size'; simp; omega
      case hk =>
        intro g' cap' w3 ho3 hg3 he3
        have HO3 := Lib.hid ho3
        have HE3 := Lib.hid (he3 w (Nat.le_refl _) (HExt.out.alloc _))
        clear ho3 hg3 he3
        go_wp2_with (fail)
        go_roundw
        case rel => exact ⟨j + 1, g', cap', by omega, by go_num, rfl, by rw [scaleL_succ]; exact HO3.out, HE3.out⟩
        case measure => simp [intOf]; omega
    · go_wp2_with (fail)
      go_ret
      obtain rfl : j = n := by omega
      exact ⟨g, rc, rfl, HOwn.out, HExt.out⟩

/-- Row d is stored at place i; later a new row at place d. -/
theorem OwnR.up {B : Nat} {w0 w2 : World} {g n cap : Nat} {rows : List (List Int)} {b : Option Addr} {m c : Nat} {xs : List Int} {i d : Nat} {ad : Option Addr} {cd : Nat}
    (h : OwnR B w0 (some ⟨g, 0, none⟩) n cap rows) (hi : i < n) (hd : d < n) (hc : w0.cell? ⟨g, d, none⟩ = some (.slice ad (nthR rows d).length cd))
    (he : Ext (w0.setCell ⟨g, i, none⟩ (.slice ad (nthR rows d).length cd)) w2) (hB : B ≤ w0.heap.size) (hx : OwnC w0.heap.size w2 b m c xs) :
    OwnR B (w2.setCell ⟨g, d, none⟩ (.slice b m c)) (some ⟨g, 0, none⟩) n cap ((rows.set i (nthR rows d)).set d xs) ∧ (∃ v, w2.cell? ⟨g, d, none⟩ = some v) ∧ w2.frozen? ⟨g, d, none⟩ = false := by
  obtain ⟨h1, vs, h2, hap, h4⟩ := h
  have hvl : vs.length = n := by have := h2.1; omega
  have vd : vs[d]? = some (.slice ad (nthR rows d).length cd) := by rw [← h2.cellAt d (by omega)]; exact hc
  have h3 := (h2.stored i (.slice ad (nthR rows d).length cd)).1
  have h3' := ownsRow_ext h3 he
  refine ⟨?_, ⟨_, (h3'.cellAt d (by omega)).trans (List.getElem?_eq_getElem (by simp; omega))⟩, h3'.frozenAt d⟩
  have h5 := (h3'.stored d (.slice b m c)).1
  have get : ∀ k, k < n → ((vs.set i (.slice ad (nthR rows d).length cd)).set d (.slice b m c))[k]? = if k = d then some (.slice b m c) else vs[if k = i then d else k]? := fun k hk => by
    by_cases hkd : k = d
    · subst hkd; rw [List.getElem?_set_self (by simp; omega), if_pos rfl]
    · rw [List.getElem?_set_ne (Ne.symm hkd), if_neg hkd]
      by_cases hki : k = i
      · subst hki; rw [List.getElem?_set_self (by omega), if_pos rfl, vd]
      · rw [List.getElem?_set_ne (Ne.symm hki), if_neg hki]
  have old : ∀ l n3 c3 g', l < n → vs[l]? = some (.slice (some ⟨g', 0, none⟩) n3 c3) → g' < w0.heap.size := fun l n3 c3 g' hl e => by
    obtain ⟨ai, ci, h5, h6⟩ := h4 l hl
    rw [h5] at e
    simp only [Option.some.injEq, Value.slice.injEq] at e
    exact (h6.base_of g' e.1).2
  refine ⟨by simpa using h1, _, h5, ?_, fun k hk => ?_⟩
  · intro k l g' n1 c1 n2 c2 hkl hk hl
    have lt : ∀ l n3 c3, ((vs.set i (.slice ad (nthR rows d).length cd)).set d (.slice b m c))[l]? = some (.slice (some ⟨g', 0, none⟩) n3 c3) → l < n := fun l n3 c3 e => by
      rcases Nat.lt_or_ge l n with h | h
      · exact h
      · rw [List.getElem?_eq_none (by simp; omega)] at e; cases e
    have hk' := lt _ _ _ hk
    have hl' := lt _ _ _ hl
    rw [get k hk'] at hk
    rw [get l hl'] at hl
    by_cases hkd : k = d
    · rw [if_pos hkd] at hk
      simp only [Option.some.injEq, Value.slice.injEq] at hk
      have h7 := (hx.base_of g' hk.1).1
      rw [if_neg (by omega)] at hl
      have h8 := old _ _ _ _ (by split <;> omega) hl
      omega
    · rw [if_neg hkd] at hk
      by_cases hld : l = d
      · rw [if_pos hld] at hl
        simp only [Option.some.injEq, Value.slice.injEq] at hl
        have h7 := (hx.base_of g' hl.1).1
        have h8 := old _ _ _ _ (by split <;> omega) hk
        omega
      · rw [if_neg hld] at hl
        refine hap _ _ g' _ _ _ _ ?_ hk hl
        split <;> split <;> omega
  · rw [get k hk, nthR_set (by simp; omega)]
    by_cases hkd : k = d
    · subst hkd
      rw [if_pos rfl, if_pos rfl, hx.1]
      exact ⟨b, c, rfl, (hx.mono hB).setOuter h3' _⟩
    · rw [if_neg hkd, if_neg (Ne.symm hkd), nthR_set (by omega)]
      have e : (if i = k then nthR rows d else nthR rows k) = nthR rows (if k = i then d else k) := by
        by_cases hki : k = i
        · subst hki; simp
        · rw [if_neg hki, if_neg (Ne.symm hki)]
      rw [e]
      obtain ⟨al, cl, h6, h7⟩ := h4 (if k = i then d else k) (by split <;> omega)
      exact ⟨al, cl, h6, ((h7.setOuter h2 _).ext he).setOuter h3' _⟩
theorem upG_eq {p : Int} {m : Nat} {rows : List (List Int)} {d k i : Nat} : upG p m rows d k i = (rows.set i (nthR rows d)).set d (scaleL p (nthR rows i) (invN p (nth (nthR rows i) k)) m) := by
  unfold upG swapL
  by_cases h : d = i
  · subst h; simp
  · rw [List.set_comm _ _ (by omega : i ≠ d), List.set_set, List.set_comm _ _ (by omega : d ≠ i)]

end Go.Proofs.Ytnabpmafcflljaa

/-
  Contract: the reduced basis of rows, in the reference.
  No condition.
-/
namespace Go.Proofs.Ytnabpmafcflljaa
set_option maxRecDepth 100000
open Go.RowKit

set_option maxHeartbeats 8000000 in
set_option maxRecDepth 100000 in
theorem s_basis (p : Int) (a : Option Addr) (n cap m : Nat) (rows : List (List Int)) (w : World) (hpr : primeB p = true) (hm : 0 < m) (hm2 : m ≤ 4096) (hl : n ≤ 4096) (hx : RdR w a n rows) (hg : RowsG p m rows) :
    Calls Try.prog 79 #[.int .i64 p, .slice a n cap] w fun e w' => ∃ g rc r, e = .returned (.slice (some ⟨g, 0, none⟩) r rc) ∧ OwnR w.heap.size w' (some ⟨g, 0, none⟩) r rc (basisL p m rows) ∧ Ext w w' := by
  have hpb := prime_bd hpr
  have hpz : ¬ p = 0 := by omega
  have HX := Lib.hid hx
  have HG := Lib.hid hg
  have HPR := Lib.hid hpr
  have HLN := Lib.hid hx.1
  have HRed := Lib.hid (fun k (hk : k ≤ m) => gaussS_red hpr hg k hk)
  clear hx hg hpr
  go_enter Try.func79, Try.ntmps79
  go_wp2_with (fail)
  refine (s_own2 a n cap m rows w hm (by omega) (by omega) (fun i hi => (HG.out i (by rw [HLN.out]; exact hi)).1) HX.out).mono ?_
  rintro e w1 ⟨g, rc, rfl, ho, h1⟩
  have HO := Lib.hid ho
  have H1 := Lib.hid h1
  have hgw := Lib.hid (ho.base_of g rfl).1
  clear ho h1
  go_wp2_with (fail)
  go_loopw [6, 7] (fun dd kk wr => ∃ (k d : Nat) (R : List (List Int)), k ≤ m ∧ d ≤ n ∧ kk = .int .i64 k ∧ dd = .int .i64 d ∧ Hid (gaussS p m rows k = (R, d)) ∧ OwnR w.heap.size wr (some ⟨g, 0, none⟩) n rc R ∧ Ext w wr) (fun _ kk _ => m - (intOf kk).toNat)
  case atStart => exact ⟨0, 0, rows, Nat.zero_le _, Nat.zero_le _, rfl, rfl, Lib.hid rfl, HO.out, H1.out⟩
  case round =>
    obtain ⟨k, d, R, hk, hd, rfl, rfl, HS, hown, hext⟩ := hrel
    have HOwn := Lib.hid hown
    have HExt := Lib.hid hext
    have HRL := Lib.hid hown.1
    have HRG : Hid (RowsG p m R) := Lib.hid (by have := (HRed.out k hk).1; rw [HS.out] at this; exact this)
    have HLen : Hid (∀ i, i < n → (nthR R i).length = m) := Lib.hid (fun i hi => (HRG.out i (by rw [HRL.out]; exact hi)).1)
    clear hown hext
    by_cases hfin : n = 0 ∨ k = m
    · have HRes : Hid (R.take d = basisL p m rows) := Lib.hid (by
        unfold basisL
        rcases hfin with h | h
        · have hr : rows = [] := List.length_eq_zero_iff.1 (by rw [HLN.out]; exact h)
          have hR : R = [] := List.length_eq_zero_iff.1 (by rw [HRL.out]; exact h)
          have h2 : (gaussS p m rows m).1 = [] := List.length_eq_zero_iff.1 (by rw [gaussS_len, hr]; rfl)
          rw [hR, h2]; simp
        · have hS := HS.out
          rw [h] at hS
          rw [hS])
      by_cases hn0 : n = 0
      · have hd0 : d = 0 := by omega
        subst hd0
        subst hn0
        go_wp2_with (fail)
        go_ret
        exact ⟨g, rc, 0, rfl, by rw [← HRes.out]; exact HOwn.out.take (Nat.le_refl _), HExt.out⟩
      · obtain ⟨a0, c0, hc0, _⟩ := HOwn.out.at (show 0 < n by omega)
        rw [HLen.out 0 (by omega)] at hc0
        have hcap : n ≤ rc := by obtain ⟨_, vs, h2, _⟩ := HOwn.out; rcases h2.2 with ⟨h3, _⟩ | ⟨_, _, _, h3, _, _, h4, _⟩; cases h3; cases h3; exact h4
        have hdc : (d : Int) ≤ (rc : Int) := by omega
        have hkm : k = m := by omega
        subst hkm
        go_wp2_with (fail)
        go_ret
        exact ⟨g, rc, d, rfl, by rw [← HRes.out]; exact HOwn.out.take hd, HExt.out⟩
    · have hkm : k < m := by omega
      have hn0 : 0 < n := by omega
      clear hfin
      obtain ⟨a0, c0, hc0, _⟩ := HOwn.out.at hn0
      rw [HLen.out 0 hn0] at hc0
      go_wp2_with (fail)
      clear hc0
      go_loop [8] (fun i => ∃ j : Nat, d ≤ j ∧ j ≤ n ∧ i = .int .i64 j ∧ Hid (∀ t, d ≤ t → t < j → nth (nthR R t) k = 0)) (fun i => n - (intOf i).toNat)
      case atStart => exact ⟨d, Nat.le_refl _, hd, rfl, Lib.hid (fun t h1 h2 => by omega)⟩
      case round =>
        obtain ⟨j, hdj, hj, rfl, HZ⟩ := hrel
        by_cases hjn : j < n
        · obtain ⟨aj, cj, hcj, hoj⟩ := HOwn.out.at hjn
          rw [HLen.out j hjn] at hcj hoj
          obtain ⟨bj, oj, rfl, hcjk⟩ := hoj.rd.2 k hkm
          by_cases hz : nth (nthR R j) k = 0
          · have hzb : (nth (nthR R j) k == 0) = true := by simp [hz]
            have HZ' := Lib.hid hz
            clear hz hoj
            go_wp2_with (fail)
            go_round
            case rel => exact ⟨j + 1, by omega, by omega, by go_num, Lib.hid (fun t h1 h2 => by
              by_cases htj : t = j
              · subst htj; exact HZ'.out
              · exact HZ.out t h1 (by omega))⟩
            case measure => simp [intOf]; omega
          · have hzb : (nth (nthR R j) k == 0) = false := by simp [hz]
            have hjb : ((j : Int) == (n : Int)) = false := by simp; omega
            have HPiv := Lib.hid (pivG_eq (rows := R) (k := k) (d := d) hdj (by rw [HRL.out]; exact hj) HZ.out (.inr hz))
            have hdn : d < n := by omega
            have HOj := Lib.hid hoj
            have HXg := Lib.hid (HRG.out j (by rw [HRL.out]; exact hjn))
            have HZb := Lib.hid (show 0 < nth (nthR R j) k ∧ nth (nthR R j) k < p by have := HXg.out.2 k hkm; omega)
            obtain ⟨ad, cd, hcd, _⟩ := HOwn.out.at hdn
            have HCd := Lib.hid hcd
            rw [HLen.out d hdn] at hcd
            have hfj := HOwn.out.frozen j
            have HNM := Lib.hid (HOwn.out.base_of g rfl)
            have HSt := Lib.hid (show OwnC w.heap.size (wr.setCell ⟨g, j, none⟩ (.slice ad m cd)) (some ⟨bj, oj, none⟩) m cj (nthR R j) by
              obtain ⟨_, vs, h2, _⟩ := HOwn.out
              exact HOj.out.setOuter h2 _)
            have hck2 : (wr.setCell ⟨g, j, none⟩ (.slice ad m cd)).cell? ⟨bj, oj + k, none⟩ = some (.int .i64 (nth (nthR R j) k)) := by
              obtain ⟨b', o', hb', hc'⟩ := HSt.out.rd.2 k hkm
              cases hb'; exact hc'
            have HE2 : Hid (Ext w (wr.setCell ⟨g, j, none⟩ (.slice ad m cd))) := Lib.hid (HExt.out.setCell HNM.out.1 _)
            clear hz hoj
            go_wp2_with (fail)
            obtain ⟨W2, hW2⟩ : ∃ W2, W2 = wr.setCell ⟨g, j, none⟩ (.slice ad m cd) := ⟨_, rfl⟩
            have HW2 := Lib.hid hW2
            rw [← hW2] at HSt hck2 HE2
            rw [← hW2]
            clear hW2
            have hsz : W2.heap.size = wr.heap.size := by rw [HW2.out]; simp [World.setCell]
            clear hcj hcjk hcd hfj
            refine (s_inv p (nth (nthR R j) k) W2 HPR.out HZb.out.1 HZb.out.2).mono ?_
            rintro e w3 ⟨rfl, x3⟩
            have X3 := Lib.hid x3
            have HIb := invN_bd (p := p) (a := nth (nthR R j) k) (by omega)
            clear x3 hck2
            go_wp2_with (fail)
            refine (s_scale p (some ⟨bj, oj, none⟩) m cj (nthR R j) (invN p (nth (nthR R j) k)) w3 (by omega) (by omega) (by omega) (by omega) (HSt.out.rd.ext X3.out) HXg.out).mono ?_
            rintro e w4 ⟨gn, cn, rfl, ho4, x4⟩
            have HN4 := Lib.hid (ho4.mono (B' := wr.heap.size) (by rw [← hsz]; exact X3.out.size))
            have X4 := Lib.hid (X3.out.trans x4)
            have hup := HOwn.out.up (i := j) hjn hdn HCd.out (by rw [HLen.out d hdn, ← HW2.out]; exact X4.out) HExt.out.size HN4.out
            obtain ⟨hup1, ⟨vd, hcd4⟩, hfd4⟩ := hup
            have HUp := Lib.hid hup1
            clear ho4 x4 hup1 HIb
            go_wp2_with (fail)
            obtain ⟨W3, hW3⟩ : ∃ W3, W3 = w4.setCell ⟨g, d, none⟩ (.slice (some ⟨gn, 0, none⟩) m cn) := ⟨_, rfl⟩
            have HOw3 : Hid (OwnR w.heap.size W3 (some ⟨g, 0, none⟩) n rc (upG p m R d k j)) := by rw [hW3, upG_eq]; exact HUp.out
            have HE3 : Hid (Ext w W3) := by rw [hW3]; exact (HE2.out.trans X4.out).setCell HNM.out.1 _
            have HNr : Hid (OwnC w.heap.size W3 (some ⟨gn, 0, none⟩) m cn (nthR (upG p m R d k j) d)) := Lib.hid (by
              rw [upG_nth (by rw [HRL.out]; exact hdn) (by rw [HRL.out]; exact hjn), if_pos rfl, hW3]
              obtain ⟨_, vs, h2, _⟩ := HOwn.out
              have h3 := ownsRow_ext ((HW2.out ▸ (h2.stored j (.slice ad m cd)).1 : W2.ownsRow _ _ _ _ _ _)) X4.out
              exact (HN4.out.mono HExt.out.size).setOuter h3 _)
            rw [← hW3]
            clear hW3 hcd4 hfd4 HUp HE2 HSt HOj HN4 X3 X4 hsz
            have HUG := Lib.hid (upG_good (k := k) (show 1 ≤ p by omega) HRG.out (show d < R.length by rw [HRL.out]; exact hdn) (show j < R.length by rw [HRL.out]; exact hjn))
            have HUL := Lib.hid (show (upG p m R d k j).length = n by rw [upG_len, HRL.out])
            obtain ⟨U, hU⟩ : ∃ U, U = upG p m R d k j := ⟨_, rfl⟩
            have HU := Lib.hid hU
            rw [← hU] at HOw3 HUG HUL HNr
            clear hU
            go_wp2_with (fail)
            go_loopw [10] (fun i wr => ∃ (r : Nat) (C : List (List Int)), r ≤ n ∧ i = .int .i64 r ∧ Hid (C = clrS p k m d U r) ∧ OwnR w.heap.size wr (some ⟨g, 0, none⟩) n rc C ∧ OwnC w.heap.size wr (some ⟨gn, 0, none⟩) m cn (nthR U d) ∧ Ext w wr) (fun i _ => n - (intOf i).toNat)
            case atStart => exact ⟨0, U, Nat.zero_le _, rfl, Lib.hid rfl, HOw3.out, HNr.out, HE3.out⟩
            case round =>
              obtain ⟨r, C, hr, rfl, HC, hown, hrow, hext⟩ := hrel
              have HCo := Lib.hid hown
              have HRw := Lib.hid hrow
              have HCe := Lib.hid hext
              have HCg : Hid (RowsG p m C) := Lib.hid (by rw [HC.out]; exact clrS_good (by omega) HUG.out r)
              have HCl : Hid (C.length = n) := Lib.hid hown.1
              clear hown hrow hext
              by_cases hrn : r < n
              · by_cases hrd : r = d
                · have hrb : ((r : Int) != (d : Int)) = false := by simp [hrd]
                  have HRD := Lib.hid hrd
                  clear hrd
                  go_wp2_with (fail)
                  go_roundw
                  case rel => exact ⟨r + 1, C, by omega, by go_num, Lib.hid (by rw [HC.out, clrS_self HRD.out]), HCo.out, HRw.out, HCe.out⟩
                  case measure => simp [intOf]; omega
                · have hrb : ((r : Int) != (d : Int)) = true := by simp; omega
                  have HRd0 := Lib.hid hrd
                  obtain ⟨ar, cr, hcr, hor⟩ := HCo.out.at hrn
                  rw [(HCg.out r (by rw [HCl.out]; exact hrn)).1] at hcr hor
                  obtain ⟨br, or, rfl, hcrk⟩ := hor.rd.2 k hkm
                  have HRr := Lib.hid (hor.rd.ext (ext_drew wr))
                  have HCr := Lib.hid ((ext_drew wr).cell hcr)
                  have HCk := Lib.hid ((ext_drew wr).cell hcrk)
                  have HGr := Lib.hid (HCg.out r (by rw [HCl.out]; exact hrn))
                  have HGd := Lib.hid (HUG.out d (by rw [HUL.out]; exact hdn))
                  have HZr := Lib.hid (HGr.out.2 k hkm)
                  have HSub : Hid (IntKind.i64.wrap (p - nth (nthR C r) k) = p - nth (nthR C r) k) := Lib.hid (IntWalk.i64_in _ (by have := HZr.out; omega))
                  obtain ⟨kk, hkk⟩ : ∃ kk, kk = (p - nth (nthR C r) k) % p := ⟨_, rfl⟩
                  have HRem : Hid ((p - nth (nthR C r) k).tmod p = kk) := Lib.hid (by rw [hkk]; exact Int.tmod_eq_emod_of_nonneg (by have := HZr.out; omega))
                  have HKb : Hid (0 ≤ kk ∧ kk ≤ 1000) := Lib.hid (by have h1 := Int.emod_nonneg (p - nth (nthR C r) k) (show p ≠ 0 by omega); have h2 := Int.emod_lt_of_pos (p - nth (nthR C r) k) (show 0 < p by omega); rw [hkk]; constructor; exact h1; exact Int.le_of_lt (Int.lt_of_lt_of_le h2 (by omega)))
                  have HMod : Hid (kk % p = (-(nth (nthR C r) k)) % p) := Lib.hid (by rw [hkk, Int.emod_emod, show p - nth (nthR C r) k = -(nth (nthR C r) k) + p by omega, Int.add_emod_right])
                  clear hkk
                  clear hor hrd
                  go_wp2_with (fail)
                  clear hcr hcrk
                  refine wp_region_lex_tail 21 [(19, .ownS wr.drew.heap.size m (plusL p (nthR C r) (nthR U d) kk m))] (by kernel_rfl) (by kernel_rfl) ?_
                  simp only [List.take, List.drop]
                  (refine LexW.pure (v := ?_) rfl rfl (fun w1 he => ?_) ?_; rotate_left; ( have e1 := he.cell HCr.out; have e3 := he.cell HCk.out; have e4 := HSub.out; have e5 := HRem.out; go_simp; rfl); simp only [Act.put, List.setIfInBounds_toArray, List.set_cons_zero, List.set_cons_succ])
                  (refine LexW.pure (v := ?_) rfl rfl (fun w1 he => ?_) ?_; rotate_left; ( have e1 := he.cell HCr.out; have e3 := he.cell HCk.out; have e4 := HSub.out; have e5 := HRem.out; go_simp; rfl); simp only [Act.put, List.setIfInBounds_toArray, List.set_cons_zero, List.set_cons_succ])
                  (refine LexW.pure (v := ?_) rfl rfl (fun w1 he => ?_) ?_; rotate_left; ( have e1 := he.cell HCr.out; have e3 := he.cell HCk.out; have e4 := HSub.out; have e5 := HRem.out; go_simp; rfl); simp only [Act.put, List.setIfInBounds_toArray, List.set_cons_zero, List.set_cons_succ])
                  (refine LexW.pure (v := ?_) rfl rfl (fun w1 he => ?_) ?_; rotate_left; ( have e1 := he.cell HCr.out; have e3 := he.cell HCk.out; have e4 := HSub.out; have e5 := HRem.out; go_simp; rfl); simp only [Act.put, List.setIfInBounds_toArray, List.set_cons_zero, List.set_cons_succ])
                  (refine LexW.pure (v := ?_) rfl rfl (fun w1 he => ?_) ?_; rotate_left; ( have e1 := he.cell HCr.out; have e3 := he.cell HCk.out; have e4 := HSub.out; have e5 := HRem.out; go_simp; rfl); simp only [Act.put, List.setIfInBounds_toArray, List.set_cons_zero, List.set_cons_succ])
                  (refine LexW.pure (v := ?_) rfl rfl (fun w1 he => ?_) ?_; rotate_left; ( have e1 := he.cell HCr.out; have e3 := he.cell HCk.out; have e4 := HSub.out; have e5 := HRem.out; go_simp; rfl); simp only [Act.put, List.setIfInBounds_toArray, List.set_cons_zero, List.set_cons_succ])
                  (refine LexW.pure (v := ?_) rfl rfl (fun w1 he => ?_) ?_; rotate_left; ( have e1 := he.cell HCr.out; have e3 := he.cell HCk.out; have e4 := HSub.out; have e5 := HRem.out; go_simp; rfl); simp only [Act.put, List.setIfInBounds_toArray, List.set_cons_zero, List.set_cons_succ])
                  (refine LexW.pure (v := ?_) rfl rfl (fun w1 he => ?_) ?_; rotate_left; ( have e1 := he.cell HCr.out; have e3 := he.cell HCk.out; have e4 := HSub.out; have e5 := HRem.out; go_simp; rfl); simp only [Act.put, List.setIfInBounds_toArray, List.set_cons_zero, List.set_cons_succ])
                  (refine LexW.pure (v := ?_) rfl rfl (fun w1 he => ?_) ?_; rotate_left; ( have e1 := he.cell HCr.out; have e3 := he.cell HCk.out; have e4 := HSub.out; have e5 := HRem.out; go_simp; rfl); simp only [Act.put, List.setIfInBounds_toArray, List.set_cons_zero, List.set_cons_succ])
                  (refine LexW.pure (v := ?_) rfl rfl (fun w1 he => ?_) ?_; rotate_left; ( have e1 := he.cell HCr.out; have e3 := he.cell HCk.out; have e4 := HSub.out; have e5 := HRem.out; go_simp; rfl); simp only [Act.put, List.setIfInBounds_toArray, List.set_cons_zero, List.set_cons_succ])
                  (refine LexW.pure (v := ?_) rfl rfl (fun w1 he => ?_) ?_; rotate_left; ( have e1 := he.cell HCr.out; have e3 := he.cell HCk.out; have e4 := HSub.out; have e5 := HRem.out; go_simp; rfl); simp only [Act.put, List.setIfInBounds_toArray, List.set_cons_zero, List.set_cons_succ])
                  (refine LexW.pure (v := ?_) rfl rfl (fun w1 he => ?_) ?_; rotate_left; ( have e1 := he.cell HCr.out; have e3 := he.cell HCk.out; have e4 := HSub.out; have e5 := HRem.out; go_simp; rfl); simp only [Act.put, List.setIfInBounds_toArray, List.set_cons_zero, List.set_cons_succ])
                  (refine LexW.pure (v := ?_) rfl rfl (fun w1 he => ?_) ?_; rotate_left; ( have e1 := he.cell HCr.out; have e3 := he.cell HCk.out; have e4 := HSub.out; have e5 := HRem.out; go_simp; rfl); simp only [Act.put, List.setIfInBounds_toArray, List.set_cons_zero, List.set_cons_succ])
                  (refine LexW.pure (v := ?_) rfl rfl (fun w1 he => ?_) ?_; rotate_left; ( have e1 := he.cell HCr.out; have e3 := he.cell HCk.out; have e4 := HSub.out; have e5 := HRem.out; go_simp; rfl); simp only [Act.put, List.setIfInBounds_toArray, List.set_cons_zero, List.set_cons_succ])
                  (refine LexW.pure (v := ?_) rfl rfl (fun w1 he => ?_) ?_; rotate_left; ( have e1 := he.cell HCr.out; have e3 := he.cell HCk.out; have e4 := HSub.out; have e5 := HRem.out; go_simp; rfl); simp only [Act.put, List.setIfInBounds_toArray, List.set_cons_zero, List.set_cons_succ])
                  (refine LexW.pure (v := ?_) rfl rfl (fun w1 he => ?_) ?_; rotate_left; ( have e1 := he.cell HCr.out; have e3 := he.cell HCk.out; have e4 := HSub.out; have e5 := HRem.out; go_simp; rfl); simp only [Act.put, List.setIfInBounds_toArray, List.set_cons_zero, List.set_cons_succ])
                  (refine LexW.pure (v := ?_) rfl rfl (fun w1 he => ?_) ?_; rotate_left; ( have e1 := he.cell HCr.out; have e3 := he.cell HCk.out; have e4 := HSub.out; have e5 := HRem.out; go_simp; rfl); simp only [Act.put, List.setIfInBounds_toArray, List.set_cons_zero, List.set_cons_succ])
                  (refine LexW.pure (v := ?_) rfl rfl (fun w1 he => ?_) ?_; rotate_left; ( have e1 := he.cell HCr.out; have e3 := he.cell HCk.out; have e4 := HSub.out; have e5 := HRem.out; go_simp; rfl); simp only [Act.put, List.setIfInBounds_toArray, List.set_cons_zero, List.set_cons_succ])
                  (refine LexW.pure (v := ?_) rfl rfl (fun w1 he => ?_) ?_; rotate_left; ( have e1 := he.cell HCr.out; have e3 := he.cell HCk.out; have e4 := HSub.out; have e5 := HRem.out; go_simp; rfl); simp only [Act.put, List.setIfInBounds_toArray, List.set_cons_zero, List.set_cons_succ])
                  (refine LexW.callR (f := ?_) (args := ?_) rfl rfl (fun w1 => ?_) (fun w1 he hdep => ?_) (fun v hv => ?_); rotate_left 2; (go_simp; refine ⟨?_, ?_⟩ <;> rfl); ( refine (s_plus p _ _ m _ _ (nthR C r) (nthR U d) kk w1 (by omega) (by omega) HKb.out (by omega) (HRr.out.ext he) (HRw.out.rd.ext ((ext_drew wr).trans he)) HGr.out HGd.out).mono ?_; rintro e w2 ⟨g, rc, rfl, ho, g2⟩; exact ⟨_, rfl, g2, g, rc, rfl, ho.mono he.size⟩); simp only [Act.put, List.setIfInBounds_toArray, List.set_cons_zero, List.set_cons_succ])
                  obtain ⟨_, g99, c99, rfl, _⟩ := hv
                  (refine LexW.pure (v := ?_) rfl rfl (fun w1 he => ?_) ?_; rotate_left; ( have e1 := he.cell HCr.out; have e3 := he.cell HCk.out; have e4 := HSub.out; have e5 := HRem.out; go_simp; rfl); simp only [Act.put, List.setIfInBounds_toArray, List.set_cons_zero, List.set_cons_succ])
                  refine LexW.nil (fun w3 he hkn => ?_)
                  obtain ⟨_, _, q99, r99⟩ : (SPred.ownS wr.drew.heap.size m (plusL p (nthR C r) (nthR U d) kk m)).holds (.slice (some ⟨g99, 0, none⟩) m c99) w3 := hkn (19, _) (by simp)
                  cases q99
                  have R99 := Lib.hid r99
                  have HE := Lib.hid he
                  clear he hkn r99
                  have ow4 := (HCo.out.ext (ext_drew wr)).ext HE.out
                  obtain ⟨ay, cy, hcy, _⟩ := ow4.at hrn
                  have hfy := ow4.frozen r
                  have HOw4 := Lib.hid ow4
                  clear ow4
                  go_wp2_with (fail)
                  go_roundw
                  case rel => exact ⟨r + 1, C.set r (plusL p (nthR C r) (nthR U d) kk m), by omega, by go_num, Lib.hid (by
                    rw [clrS_ne HRd0.out, ← HC.out, plus_mod HMod.out]
                    have : nthR C d = nthR U d := by rw [HC.out, clrS_nth _ (by rw [HUL.out]; exact hr), if_neg (by omega)]
                    rw [this]), (HCo.out.ext (ext_drew wr)).put HE.out (HCe.out.trans (ext_drew wr)).size R99.out hrn, (by
                    obtain ⟨_, vs, h2, _⟩ := HOw4.out
                    exact (HRw.out.ext ((ext_drew wr).trans HE.out)).setOuter h2 _), (HCe.out.trans ((ext_drew wr).trans HE.out)).setCell HNM.out.1 _⟩
                  case measure => simp [intOf]; omega
              · obtain rfl : r = n := by omega
                go_wp2_with (fail)
                go_roundw
                case rel => exact ⟨k + 1, d + 1, C, by omega, by omega, by go_num, by go_num, Lib.hid (by
                  show stepG p m (gaussS p m rows k) k = _
                  rw [HS.out, stepG_yes (s := (R, d)) HPiv.out (by rw [HRL.out]; exact hjn), HC.out, HU.out, HRL.out]), HCo.out, HCe.out⟩
                case measure => simp [intOf]; omega
        · have hjb : ((j : Int) == (n : Int)) = true := by simp; omega
          have HPiv := Lib.hid (pivG_eq (rows := R) (k := k) (d := d) hdj (by rw [HRL.out]; exact hj) HZ.out (.inl (by rw [HRL.out]; omega)))
          go_wp2_with (fail)
          go_roundw
          case rel => exact ⟨k + 1, d, R, by omega, hd, by go_num, rfl, Lib.hid (by
            show stepG p m (gaussS p m rows k) k = _
            rw [HS.out]
            exact stepG_no (s := (R, d)) (by rw [HPiv.out, HRL.out]; omega)), HOwn.out, HExt.out⟩
          case measure => simp [intOf]; omega
end Go.Proofs.Ytnabpmafcflljaa
