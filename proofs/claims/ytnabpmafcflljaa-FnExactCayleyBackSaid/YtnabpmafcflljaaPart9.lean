/-
  Contracts and plain laws, part 9: Orth, MapK, Solve, Kernel, KernelS, Ann, Fixed, CayC, MTimes.
  No condition.
-/
import Derived.Test.YtnabpmafcflljaaPart8
import Derived.Test.YtnabpmafcflljaaPart2
import Derived.Maps.OwnSet
import Derived.Maps.RangeWalk
import Derived.Test.YtnabpmafcflljaaPart5
import Derived.Test.YtnabpmafcflljaaPart3
import Derived.Test.YtnabpmafcflljaaPart6
import Derived.Test.YtnabpmafcflljaaPart1
import Derived.Test.YtnabpmafcflljaaPart4
/-
  The checks of orthogonal matrices.
  No condition.
-/
namespace Go.Proofs.Ytnabpmafcflljaa
set_option maxRecDepth 100000
open Go.RowKit

def code8 (p : Int) (qs : List Int) (rows : List (List Int)) : Int := if spaceB p qs = true then (if regB qs = true then (if isoB p qs rows qs.length = true then 0 else 2) else 5) else 1
theorem code8_zero {p : Int} {qs : List Int} {rows : List (List Int)} (h : code8 p qs rows = 0) : spaceB p qs = true ∧ regB qs = true ∧ isoB p qs rows qs.length = true := by
  unfold code8 at h
  split at h
  · rename_i h1
    split at h
    · rename_i h2
      split at h
      · rename_i h3; exact ⟨h1, h2, h3⟩
      · cases h
    · cases h
  · cases h
theorem code8_A {p : Int} {qs : List Int} {rows : List (List Int)} (h : spaceB p qs = false) : code8 p qs rows = 1 := by unfold code8; rw [h]; rfl
theorem code8_B {p : Int} {qs : List Int} {rows : List (List Int)} (h : spaceB p qs = true) (h2 : regB qs = false) : code8 p qs rows = 5 := by unfold code8; rw [h, h2]; rfl
theorem code8_C {p : Int} {qs : List Int} {rows : List (List Int)} (h : spaceB p qs = true) (h2 : regB qs = true) : code8 p qs rows = if isoB p qs rows qs.length = true then 0 else 2 := by unfold code8; rw [h, h2]; rfl

set_option maxHeartbeats 2000000 in
theorem c_checkOrth (p : Int) (a : Option Addr) (d cap : Nat) (qs : List Int) (ax1 : Option Addr) (n1 cx1 : Nat) (xs1 : List (List Int)) (w : World) (hd : d ≤ 4194304) (hn1 : n1 ≤ 4194304) (hr1 : ∀ i, i < n1 → (nthR xs1 i).length ≤ 4194304) (hq : RdC w a d qs) (hx1 : RdR w ax1 n1 xs1) :
    Calls Try.prog 44 #[.agg #[.int .i64 p, .slice a d cap], .slice ax1 n1 cx1] w fun e w' => e = .returned (.int .i64 (code8 p qs xs1)) ∧ Ext w w' := by
  have HQ := Lib.hid hq
  have HX := Lib.hid hx1
  have HR := Lib.hid hr1
  clear hq hx1 hr1
  go_enter Try.func44, Try.ntmps44
  go_wp2_with (fail)
  refine Calls.mono (c_isSpace p a d cap qs _ hd (HQ.out.ext (ext_alloc _ _))) ?_
  rintro e w1 ⟨rfl, g1⟩
  have G := Lib.hid ((ext_alloc w (.cells #[.int .i64 p, .slice a d cap] 30)).trans g1)
  have s0 : w1.cell? ⟨w.heap.size, 0, none⟩ = some (.int .i64 p) := g1.cell (by simp)
  have s1 : w1.cell? ⟨w.heap.size, 1, none⟩ = some (.slice a d cap) := g1.cell (by simp)
  clear g1
  cases hs : spaceB p qs
  · have HC := Lib.hid (code8_A (rows := xs1) hs)
    clear hs
    go_wp2_with (fail)
    go_ret
    exact ⟨ret_int HC.out.symm, G.out⟩
  have HS := Lib.hid hs
  clear hs
  go_wp2_with (fail)
  refine Calls.mono (c_regular p a d cap qs _ hd (HQ.out.ext G.out)) ?_
  rintro e w2 ⟨rfl, g2⟩
  replace s0 := g2.cell s0
  replace s1 := g2.cell s1
  replace G := Lib.hid (G.out.trans g2)
  clear g2
  cases hrg : regB qs
  · have HC := Lib.hid (code8_B (rows := xs1) HS.out hrg)
    clear hrg
    go_wp2_with (fail)
    go_ret
    exact ⟨ret_int HC.out.symm, G.out⟩
  have HC := Lib.hid (code8_C (rows := xs1) HS.out hrg)
  clear hrg
  go_wp2_with (fail)
  refine Calls.mono (c_isometry p a d cap qs ax1 n1 cx1 xs1 _ HS.out hn1 HR.out (HQ.out.ext G.out) (HX.out.ext G.out)) ?_
  rintro e w3 ⟨rfl, g3⟩
  replace G := Lib.hid (G.out.trans g3)
  have HD := Lib.hid HQ.out.1
  clear g3
  cases hi : isoB p qs xs1 d
  · have HI := Lib.hid hi
    clear hi
    go_wp2_with (fail)
    go_ret
    exact ⟨ret_int (by rw [HC.out, HD.out, HI.out]; rfl), G.out⟩
  · have HI := Lib.hid hi
    clear hi
    go_wp2_with (fail)
    go_ret
    exact ⟨ret_int (by rw [HC.out, HD.out, HI.out]; rfl), G.out⟩

set_option maxHeartbeats 2000000 in
theorem s_IsOrth (p : Int) (a : Option Addr) (d cap : Nat) (qs : List Int) (ax1 : Option Addr) (n1 cx1 : Nat) (xs1 : List (List Int)) (w : World) (hd : d ≤ 4194304) (hn1 : n1 ≤ 4194304) (hr1 : ∀ i, i < n1 → (nthR xs1 i).length ≤ 4194304) (hq : RdC w a d qs) (hx1 : RdR w ax1 n1 xs1) (B : Bool) (C : Int) (hB : B = (spaceB p qs && regB qs && isoB p qs xs1 qs.length)) (hC : C = if spaceB p qs = true then (if regB qs = true then 0 else 5) else 1) :
    Calls Try.prog 78 #[.agg #[.int .i64 p, .slice a d cap], .slice ax1 n1 cx1] w fun e w' => e = .returned (.tuple #[.bool B, .int .i64 C]) ∧ Ext w w' := by
  have HQ := Lib.hid hq
  have HX := Lib.hid hx1
  have HR := Lib.hid hr1
  have HB := Lib.hid hB
  have HC := Lib.hid hC
  clear hq hx1 hr1 hB hC
  go_enter Try.func78, Try.ntmps78
  go_wp2_with (fail)
  refine Calls.mono (s_is p a d cap qs _ hd (HQ.out.ext (ext_alloc _ _))) ?_
  rintro e w1 ⟨rfl, g1⟩
  have G := Lib.hid ((ext_alloc w (.cells #[.int .i64 p, .slice a d cap] 30)).trans g1)
  have s0 : w1.cell? ⟨w.heap.size, 0, none⟩ = some (.int .i64 p) := g1.cell (by simp)
  have s1 : w1.cell? ⟨w.heap.size, 1, none⟩ = some (.slice a d cap) := g1.cell (by simp)
  clear g1
  cases hs : spaceB p qs
  · have HB2 := Lib.hid (show B = false by rw [HB.out, hs]; rfl)
    have HC2 := Lib.hid (show C = 1 by rw [HC.out, hs]; rfl)
    clear hs
    go_wp2_with (fail)
    go_ret2
    exact ⟨by rw [HB2.out, HC2.out]; rfl, G.out⟩
  have HS := Lib.hid hs
  clear hs
  obtain ⟨hpr, _, hd6, hqb⟩ := space_of HS.out
  have hpb := prime_bd hpr
  have HD := Lib.hid HQ.out.1
  rw [HD.out] at hd6
  have HDZ := Lib.hid (disc_reg hpr hqb)
  have HQB := Lib.hid hqb
  clear hpr hqb
  go_wp2_with (fail)
  refine Calls.mono (s_disc p a d cap qs _ (by omega) (by omega) (by omega) (HQ.out.ext G.out) HQB.out) ?_
  rintro e w2 ⟨rfl, g2⟩
  replace s0 := g2.cell s0
  replace s1 := g2.cell s1
  replace G := Lib.hid (G.out.trans g2)
  clear g2
  obtain ⟨dz, hdz⟩ : ∃ x, x = discL p qs := ⟨_, rfl⟩
  rw [← hdz] at HDZ ⊢
  clear hdz
  cases hrg : regB qs
  · have hz : (dz == 0) = true := by rw [HDZ.out, hrg]; rfl
    have HB2 := Lib.hid (show B = false by rw [HB.out, HS.out, hrg]; rfl)
    have HC2 := Lib.hid (show C = 5 by rw [HC.out, HS.out, hrg]; rfl)
    clear hrg
    go_wp2_with (fail)
    go_ret2
    exact ⟨by rw [HB2.out, HC2.out]; rfl, G.out⟩
  have HB2 := Lib.hid (show B = isoB p qs xs1 d by rw [HB.out, HS.out, hrg, HD.out]; rfl)
  have HC2 := Lib.hid (show C = 0 by rw [HC.out, HS.out, hrg]; rfl)
  have hz : (dz == 0) = false := by rw [HDZ.out, hrg]; rfl
  clear hrg
  go_wp2_with (fail)
  go_at_call 56
  have H8 : Calls Try.prog 56 #[.agg #[.int .i64 p, .slice a d cap], .slice ax1 n1 cx1] w2 fun e w' => e = .returned (.bool (isoB p qs xs1 d)) ∧ Ext w2 w' := by
    have HQ2 := Lib.hid (HQ.out.ext G.out)
    have HX2 := Lib.hid (HX.out.ext G.out)
    clear s0 s1
    go_enter Try.func56, Try.ntmps56
    go_wp2_with (fail)
    refine Calls.mono (s_isometry p a d cap qs ax1 n1 cx1 xs1 _ HS.out hn1 HR.out (HQ2.out.ext (ext_alloc _ _)) (HX2.out.ext (ext_alloc _ _))) ?_
    rintro e w3 ⟨rfl, g3⟩
    go_wp2_with (fail)
    go_ret
    exact ⟨rfl, (ext_alloc _ _).trans g3⟩
  refine Calls.mono H8 ?_
  rintro e w3 ⟨rfl, g3⟩
  replace G := Lib.hid (G.out.trans g3)
  clear g3 H8
  go_wp2_with (fail)
  go_ret2
  exact ⟨by rw [HB2.out, HC2.out]; rfl, G.out⟩
set_option maxHeartbeats 2000000 in
theorem s_code8 (p : Int) (a : Option Addr) (d cap : Nat) (qs : List Int) (ax1 : Option Addr) (n1 cx1 : Nat) (xs1 : List (List Int)) (w : World) (hd : d ≤ 4194304) (hn1 : n1 ≤ 4194304) (hr1 : ∀ i, i < n1 → (nthR xs1 i).length ≤ 4194304) (hq : RdC w a d qs) (hx1 : RdR w ax1 n1 xs1) :
    Calls Try.prog 41 #[.agg #[.int .i64 p, .slice a d cap], .slice ax1 n1 cx1] w fun e w' => e = .returned (.int .i64 (code8 p qs xs1)) ∧ Ext w w' := by
  have HQ := Lib.hid hq
  have HX := Lib.hid hx1
  have HR := Lib.hid hr1
  clear hq hx1 hr1
  go_enter Try.func41, Try.ntmps41
  go_wp2_with (fail)
  obtain ⟨B, hB⟩ : ∃ x, x = (spaceB p qs && regB qs && isoB p qs xs1 qs.length) := ⟨_, rfl⟩
  obtain ⟨C, hC⟩ : ∃ x : Int, x = if spaceB p qs = true then (if regB qs = true then 0 else 5) else 1 := ⟨_, rfl⟩
  have HB := Lib.hid hB
  have HC0 := Lib.hid hC
  refine Calls.mono (s_IsOrth p a d cap qs ax1 n1 cx1 xs1 _ hd hn1 HR.out (HQ.out.ext (ext_alloc _ _)) (HX.out.ext (ext_alloc _ _)) B C hB hC) ?_
  rintro e w1 ⟨rfl, g1⟩
  clear hB hC
  have G := Lib.hid ((ext_alloc w (.cells #[.int .i64 p, .slice a d cap] 30)).trans g1)
  clear g1
  by_cases h0 : C = 0
  · have hcb : (C == 0) = true := by simp [h0]
    have HCZ := Lib.hid (show code8 p qs xs1 = if B = true then 0 else 2 by
      have hc := HC0.out
      rw [h0] at hc
      unfold code8
      cases hs : spaceB p qs
      · rw [hs] at hc; cases hc
      · cases hr : regB qs
        · rw [hs, hr] at hc; cases hc
        · have hb := HB.out
          rw [hs, hr] at hb
          rw [hb]; rfl)
    clear h0
    cases B
    · go_wp2_with (fail)
      go_ret
      exact ⟨ret_int (by rw [HCZ.out]; rfl), G.out⟩
    · have HC1 := Lib.hid (show C = 0 by simpa using hcb)
      go_wp2_with (fail)
      go_ret
      exact ⟨ret_int (by rw [HCZ.out, HC1.out]; rfl), G.out⟩
  · have hcb : (C == 0) = false := by simp [h0]
    have HCZ := Lib.hid (show code8 p qs xs1 = C by
      have hc := HC0.out
      unfold code8
      cases hs : spaceB p qs
      · rw [hs] at hc; exact hc.symm
      · cases hr : regB qs
        · rw [hs, hr] at hc; exact hc.symm
        · rw [hs, hr] at hc; exact absurd hc h0)
    clear h0
    go_wp2_with (fail)
    go_ret
    exact ⟨ret_int HCZ.out.symm, G.out⟩
end Go.Proofs.Ytnabpmafcflljaa

/-
  The map of the places of the first numbers of a reduced basis; a vector of the kernel filled in an order that nobody knows.
  No condition.
-/
namespace Go.Proofs.Ytnabpmafcflljaa
set_option maxRecDepth 100000
open Go.RowKit

theorem keyI (x : Int) : WideAt.IsKeyLit (.int .i64 x) := trivial
/-- The map as read when the first k rows have been gone through. -/
def plD (red : List (List Int)) : Nat → DataW Unit
  | 0 => .map []
  | i + 1 => (plD red i).put (.int .i64 (leadN (nthR red i))) (.lit (.int .i64 i))
theorem plD_map (red : List (List Int)) : ∀ k, Maps.IsMap (plD red k)
  | 0 => Maps.isMap_empty
  | k + 1 => (plD_map red k).put _ _
theorem plD_has (red : List (List Int)) (x : Int) : ∀ k, Maps.has (plD red k) (.int .i64 x) = true ↔ ∃ i : Nat, i < k ∧ ((leadN (nthR red i) : Nat) : Int) = x
  | 0 => by
    constructor
    · intro h; cases h
    · rintro ⟨i, hi, _⟩; omega
  | k + 1 => by
    unfold plD
    by_cases h : ((leadN (nthR red k) : Nat) : Int) = x
    · subst h
      exact ⟨fun _ => ⟨k, by omega, rfl⟩, fun _ => Maps.has_put_same (plD_map red k) (keyI _) _⟩
    · rw [Maps.has_put_other (fun e => h (by injection e with _ e2; exact e2.symm)), plD_has red x k]
      constructor
      · rintro ⟨i, hi, e⟩; exact ⟨i, by omega, e⟩
      · rintro ⟨i, hi, e⟩
        refine ⟨i, ?_, e⟩
        rcases Nat.lt_or_ge i k with h1 | h1
        · exact h1
        · obtain rfl : i = k := by omega
          exact absurd e h
theorem plD_at {p : Int} {m : Nat} {red : List (List Int)} {c : Nat → Nat} (hb : Basis p m red c) (z : DataW Unit) : ∀ k, k ≤ red.length → ∀ i, i < k → (plD red k).atKey (.int .i64 (leadN (nthR red i))) z = .lit (.int .i64 i)
  | 0, _, i, hi => by omega
  | k + 1, hk, i, hi => by
    unfold plD
    by_cases h : i = k
    · subst h
      exact Maps.atKey_put_same (plD_map red i) (keyI _) _ _
    · rw [Maps.atKey_put_other (fun e => by
        injection e with _ e2
        have h1 := hb.leadN (i := i) (by omega)
        have h2 := hb.leadN (i := k) (by omega)
        rw [h1, h2] at e2
        exact h (hb.inj (by omega) (by omega) (by omega)))]
      exact plD_at hb z k (by omega) i (by omega)
theorem plD_entry {p : Int} {m : Nat} {red : List (List Int)} {cc : Nat → Nat} (hb : Basis p m red cc) {x c : Int} (h : ∀ zd, (plD red red.length).atKey (.int .i64 x) zd = .lit (.int .i64 c)) : ∃ i : Nat, i < red.length ∧ c = (i : Int) ∧ x = ((leadN (nthR red i) : Nat) : Int) := by
  have hh := Maps.has_true_of_atKey (D := plD red red.length) (k := .int .i64 x) (y := .lit (.int .i64 c)) h
  obtain ⟨i, hi, e⟩ := (plD_has red x red.length).1 hh
  refine ⟨i, hi, ?_, e.symm⟩
  have h1 := plD_at hb (.lit (.int .i64 0)) red.length (Nat.le_refl _) i hi
  rw [e, h] at h1
  injection h1 with h2
  injection h2
theorem plD_piv {red : List (List Int)} {t : Nat} : Maps.has (plD red red.length) (.int .i64 t) = (pivIx red t).isSome := by
  rw [Bool.eq_iff_iff, plD_has]
  cases h : pivIx red t with
  | none =>
    simp only [Option.isSome_none, Bool.false_eq_true, iff_false, not_exists, not_and]
    intro i hi e
    exact pivIx_none h i hi (by omega)
  | some i =>
    obtain ⟨h1, h2⟩ := pivIx_some h
    simp only [Option.isSome_some, iff_true]
    exact ⟨i, h1, by omega⟩

/-- The vector while some entries are still to come. -/
def kerE (p : Int) (red : List (List Int)) (f : Nat) (left : Lit → Bool) (t : Nat) : Int := if t = f then 1 else match pivIx red t with | some i => if left (.int .i64 t) = true then 0 else (-(nth (nthR red i) f)) % p | none => 0
def kerP (p : Int) (n : Nat) (red : List (List Int)) (f : Nat) (left : Lit → Bool) : List Int := (List.range n).map (kerE p red f left)
theorem kerP_len (p : Int) (n : Nat) (red : List (List Int)) (f : Nat) (left : Lit → Bool) : (kerP p n red f left).length = n := by simp [kerP]
theorem kerP_nth {p : Int} {n : Nat} {red : List (List Int)} {f t : Nat} {left : Lit → Bool} (h : t < n) : nth (kerP p n red f left) t = kerE p red f left t := by
  unfold kerP; rw [nth_map (by simpa using h)]; simp
theorem kerP_start {p : Int} {n : Nat} {red : List (List Int)} {f : Nat} (hf : f < n) : kerP p n red f (Maps.has (plD red red.length)) = bladeL n f := by
  refine ext_nth (by rw [kerP_len, bladeL_len]) (fun t ht => ?_)
  rw [kerP_len] at ht
  rw [kerP_nth ht, bladeL_nth hf ht]
  unfold kerE
  by_cases h : t = f
  · rw [if_pos h, if_pos h.symm]
  · rw [if_neg h, if_neg (fun e => h e.symm)]
    cases hp : pivIx red t with
    | none => rfl
    | some i => simp only [plD_piv, hp, Option.isSome_some, if_true]
theorem kerP_end {p : Int} {n : Nat} {red : List (List Int)} {f : Nat} {left : Lit → Bool} (h : ∀ kl, left kl = false) : kerP p n red f left = kerV p n red f := by
  unfold kerP kerV
  refine List.map_congr_left fun t _ => ?_
  unfold kerE kerN
  cases hp : pivIx red t with
  | none => rfl
  | some i => simp only [h, Bool.false_eq_true, if_false]
theorem kerP_step {p : Int} {m n : Nat} {red : List (List Int)} {c : Nat → Nat} (hb : Basis p m red c) {f i : Nat} {left : Lit → Bool} (hi : i < red.length) (hx : leadN (nthR red i) < n) (hf : pivIx red f = none) :
    kerP p n red f (fun z => left z && !z.sameKey (.int .i64 (leadN (nthR red i)))) = (kerP p n red f left).set (leadN (nthR red i)) ((-(nth (nthR red i) f)) % p) := by
  have hpi : pivIx red (leadN (nthR red i)) = some i := by rw [hb.leadN hi]; exact hb.piv hi
  have hne : leadN (nthR red i) ≠ f := fun e => by rw [e, hf] at hpi; cases hpi
  refine ext_nth (by rw [kerP_len, List.length_set, kerP_len]) (fun t ht => ?_)
  rw [kerP_len] at ht
  rw [kerP_nth ht, nth_set (by rw [kerP_len]; exact hx)]
  by_cases h : t = leadN (nthR red i)
  · subst h
    rw [if_pos rfl]
    unfold kerE
    rw [if_neg hne, hpi]
    simp only [WideAt.sameKey_self (keyI _), Bool.not_true, Bool.and_false, Bool.false_eq_true, if_false]
  · rw [if_neg (fun e => h e.symm), kerP_nth ht]
    unfold kerE
    have : (Lit.int .i64 (t : Int)).sameKey (.int .i64 (leadN (nthR red i))) = false := Maps.sameKey_ne (fun e => by injection e with _ e2; omega)
    simp only [this, Bool.not_false, Bool.and_true]
theorem ownsMap_ext {P : Program} {k : TypeId} {R : Value → Option (DataW Unit × List MemPlace)} {b n : Nat} {D : DataW Unit} {w w' : World} (h : w.ownsMap P k R b n D) (he : Ext w w') : w'.ownsMap P k R b n D := by
  obtain ⟨es, clock, h1, h2⟩ := h
  exact ⟨es, clock, he.heap h1, h2⟩
theorem ranges_ext {P : Program} {k : TypeId} {R : Value → Option (DataW Unit × List MemPlace)} {b r n : Nat} {D : DataW Unit} {left : Lit → Bool} {cnt : Nat} {w w' : World} (h : w.ranges P k R b r n D left cnt) (he : Ext w w') : w'.ranges P k R b r n D left cnt := by
  obtain ⟨es, clock, since, seen, c0, h1, h2, h3, h4, h5, h6⟩ := h
  exact ⟨es, clock, since, seen, c0, he.heap h1, h2, h3, h4, he.heap h5, h6⟩
theorem ranges_keep {P : Program} {k : TypeId} {R : Value → Option (DataW Unit × List MemPlace)} {b r n : Nat} {D : DataW Unit} {left : Lit → Bool} {cnt : Nat} {w w' : World} (h : w.ranges P k R b r n D left cnt) (hb : w'.heap[b]? = w.heap[b]?) (hr : w'.heap[r]? = w.heap[r]?) : w'.ranges P k R b r n D left cnt := by
  obtain ⟨es, clock, since, seen, c0, h1, h2, h3, h4, h5, h6⟩ := h
  exact ⟨es, clock, since, seen, c0, hb.trans h1, h2, h3, h4, hr.trans h5, h6⟩
theorem lawK : Maps.Keyed Try.prog 3 := Maps.int_keyed Try.underlying3
theorem zeroK (w : World) : (zeroValue 3).run Try.prog w = .ok (.int .i64 0) w := by kernel_rfl
end Go.Proofs.Ytnabpmafcflljaa

/-
  Contracts: solutions of linear systems, in the program and in the reference.
  No condition.
-/
namespace Go.Proofs.Ytnabpmafcflljaa
set_option maxRecDepth 100000
open Go.RowKit

theorem OwnR.other {B : Nat} {w : World} {a : Option Addr} {n cap : Nat} {rows : List (List Int)} (h : OwnR B w a n cap rows) {p : Addr} (hp : p.block < B) (v : Value) : OwnR B (w.setCell p v) a n cap rows := by
  obtain ⟨h1, vs, ⟨h2, h3⟩, hap, h4⟩ := h
  refine ⟨h1, vs, ⟨h2, ?_⟩, hap, fun i hi => ?_⟩
  · rcases h3 with h3 | ⟨g, c, cur, hv, hb, hh, h5⟩
    · exact .inl h3
    · exact .inr ⟨g, c, cur, hv, hb, by rw [Below.heap_setCell _ _ _ _ (by omega)]; exact hh, h5⟩
  · obtain ⟨ai, ci, h5, h6⟩ := h4 i hi
    exact ⟨ai, ci, h5, h6.other hp v⟩

/-- The solution and whether there is one. -/
def redL (p : Int) (m : Nat) (rows : List (List Int)) (u : List Int) (n : Nat) : List (List Int) := basisL p (m + 1) (wideL rows u n)
def solR (m : Nat) (red : List (List Int)) : List Int := if okS m red = true then solL m red else []

theorem solL_len' {n : Nat} {red : List (List Int)} : (solL n red).length = n := by simp [solL]


/-- The place of the first number other than 0, or -1. -/
def firstL (xs : List Int) : Int := if leadN xs = xs.length then -1 else (leadN xs : Int)
set_option maxHeartbeats 400000 in
theorem s_first (a : Option Addr) (n cap : Nat) (xs : List Int) (w : World) (hl : n ≤ 4194303) (hx : RdC w a n xs) :
    Calls Try.prog 80 #[.slice a n cap] w fun e w' => e = .returned (.int .i64 (firstL xs)) ∧ Ext w w' := by
  have HX := Lib.hid hx
  clear hx
  go_enter Try.func80, Try.ntmps80
  go_wp2_with (fail)
  go_loopw [3] (fun i wr => ∃ k : Nat, k ≤ n ∧ i = .int .i64 k ∧ Hid (∀ j, j < k → nth xs j = 0) ∧ Ext w wr) (fun i _ => n - (intOf i).toNat)
  case atStart => exact ⟨0, Nat.zero_le _, rfl, Lib.hid (fun j hj => by omega), Ext.refl _⟩
  case round =>
    obtain ⟨k, hk, rfl, HT, hext⟩ := hrel
    by_cases hlt : k < n
    · obtain ⟨b, off, rfl, hc⟩ := HX.out.2 k hlt
      have hc' := hext.cell hc
      clear hc
      by_cases hz : nth xs k = 0
      · have HZ := Lib.hid hz
        have hzb : (nth xs k != 0) = false := by simp [hz]
        clear hz
        go_wp2_with (fail)
        go_roundw
        case rel => exact ⟨k + 1, by omega, by go_num, Lib.hid (fun j hj => by
          by_cases hjk : j = k
          · subst hjk; exact HZ.out
          · exact HT.out j (by omega)), hext⟩
        case measure => simp [intOf]; omega
      · have HZ := Lib.hid hz
        have hzb : (nth xs k != 0) = true := by simp [hz]
        clear hz
        go_wp2_with (fail)
        go_ret
        exact ⟨ret_int (by unfold firstL; rw [leadN_eq (k := k) (by rw [HX.out.1]; omega) HT.out (.inr HZ.out), if_neg (by rw [HX.out.1]; omega)]), hext⟩
    · go_wp2_with (fail)
      go_ret
      exact ⟨ret_int (by unfold firstL; rw [leadN_eq (k := k) (by rw [HX.out.1]; omega) HT.out (.inl (by rw [HX.out.1]; omega)), if_pos (by rw [HX.out.1]; omega)]), hext⟩
theorem OwnRH.otherH {lo hi : Nat} {w : World} {a : Option Addr} {n cap : Nat} {rows : List (List Int)} (h : OwnRH lo hi w a n cap rows) {p : Addr} (hp : p.block < lo ∨ hi ≤ p.block) (v : Value) : OwnRH lo hi (w.setCell p v) a n cap rows := by
  have hb := h.low.base_of
  obtain ⟨h1, h0, vs, ⟨h2, h3⟩, hap, h4⟩ := h
  refine ⟨h1, h0, vs, ⟨h2, ?_⟩, hap, fun i hi => ?_⟩
  · rcases h3 with h3 | ⟨g, c, cur, hv, hb', hh, h5⟩
    · exact .inl h3
    · refine .inr ⟨g, c, cur, hv, hb', ?_, h5⟩
      simp only [Value.slice.injEq] at hv
      have := h0 g hv.1
      rw [Below.heap_setCell _ _ _ _ (by omega)]; exact hh
  · obtain ⟨ai, ci, h5, h6, h7⟩ := h4 i hi
    refine ⟨ai, ci, h5, h6.keep fun g hg => ?_, h7⟩
    have := h7 g hg
    have := (h6.base_of g hg).1
    exact Below.heap_setCell _ _ _ _ (by omega)

end Go.Proofs.Ytnabpmafcflljaa

/-
  Kernels: contracts of the program and the reference.
  No condition.
-/
namespace Go.Proofs.Ytnabpmafcflljaa
set_option maxRecDepth 100000
open Go.RowKit

theorem kerR_no {p : Int} {n : Nat} {red : List (List Int)} {k i : Nat} (h : pivIx red k = some i) : kerR p n red (k + 1) = kerR p n red k := by unfold kerR; rw [freeL_no h]
theorem kerR_yes {p : Int} {n : Nat} {red : List (List Int)} {k : Nat} (h : pivIx red k = none) : kerR p n red (k + 1) = kerR p n red k ++ [kerV p n red k] := by unfold kerR; rw [freeL_yes h]; simp
theorem kerR_len (p : Int) (n : Nat) (red : List (List Int)) (k : Nat) : (kerR p n red k).length ≤ k := by unfold kerR; rw [List.length_map]; exact freeL_len red k
theorem kernL_cnt {p : Int} {n : Nat} {rows : List (List Int)} (hp : primeB p = true) : (kernL p n rows).length ≤ n ∧ RowsG p n (kernL p n rows) := by
  obtain ⟨c, hb⟩ := basis_red hp (kerR_good (n := n) (red := basisL p n rows) (k := n) (prime_bd hp).1)
  exact ⟨hb.len, hb.good⟩

set_option maxHeartbeats 8000000 in
set_option maxRecDepth 100000 in
theorem c_kernel (p : Int) (a : Option Addr) (m cap n : Nat) (rows : List (List Int)) (w : World) (hpr : primeB p = true) (hn : 0 < n) (hn2 : n ≤ 4095) (hm : m ≤ 4095) (hx : RdR w a m rows) (hg : RowsG p n rows) :
    Calls Try.prog 46 #[.int .i64 p, .slice a m cap, .int .i64 n] w fun e w' => ∃ g rc, e = .returned (.slice (some ⟨g, 0, none⟩) (kernL p n rows).length rc) ∧ OwnR w.heap.size w' (some ⟨g, 0, none⟩) (kernL p n rows).length rc (kernL p n rows) ∧ Ext w w' := by
  have hmm := @run_makeMap Try.prog
  have hpb := prime_bd hpr
  obtain ⟨cc, hbas⟩ := basis_red hpr hg
  have HPR := Lib.hid hpr
  have HX := Lib.hid hx
  have HG := Lib.hid hg
  obtain ⟨red, hred⟩ : ∃ red, red = basisL p n rows := ⟨_, rfl⟩
  have HBas := Lib.hid (show Basis p n red cc by rw [hred]; exact hbas)
  have HRed := Lib.hid hred
  have HKL := Lib.hid (show kernL p n rows = basisL p n (kerR p n red n) by unfold kernL; rw [hred])
  have hrl : red.length ≤ 4095 := by have := HBas.out.len; omega
  clear hx hg hbas hpr hred
  go_enter Try.func46, Try.ntmps46
  go_wp2_with (go_at_call 84; refine (c_basis p a m cap n rows _ HPR.out hn (by omega) (by omega) HX.out HG.out).mono ?_; rintro e w1 ⟨gb, cb, r, rfl, hob, hxb⟩; rw [← HRed.out] at hob; obtain rfl := hob.len; have HOb := Lib.hid hob; have X1 := Lib.hid hxb; clear hob hxb)
  go_loopw [24] (fun i wr => ∃ k : Nat, k ≤ red.length ∧ i = .int .i64 k ∧ wr.ownsMap Try.prog 3 (plainElem Try.prog 3) w1.heap.size k (plD red k) ∧ Ext w1 wr) (fun i _ => red.length - (intOf i).toNat)
  case atStart => exact ⟨0, Nat.zero_le _, rfl, World.ownsMap_made _ _ _ _, ext_alloc _ _⟩
  case round =>
    obtain ⟨k, hk, rfl, hown, hext⟩ := hrel
    have HOwn := Lib.hid hown
    have HExt := Lib.hid hext
    clear hown hext
    by_cases hlt : k < red.length
    · obtain ⟨aj, cj, hcj, hoj⟩ := HOb.out.at hlt
      have hjl := (HBas.out.good k hlt).1
      rw [hjl] at hcj hoj
      have hcj' := HExt.out.cell hcj
      have HOj := Lib.hid (hoj.rd.ext HExt.out)
      obtain ⟨L, hL⟩ : ∃ L, L = leadN (nthR red k) := ⟨_, rfl⟩
      have HL := Lib.hid hL
      have hLn : L ≤ n := by rw [hL, ← hjl]; exact leadN_le _
      clear hcj hoj hjl hL
      go_wp2_with (first
        | (go_at_call 85; refine (c_lead aj n cj (nthR red k) _ (by omega) HOj.out).mono ?_; rintro e w2 ⟨rfl, g2⟩; rw [← HL.out]; have G2 := Lib.hid g2; clear g2)
        | (at_mapUpdate; refine wpList_mapUpdate_own _ rfl _ _ _ 80 rfl 3 3 lawK Try.underlying80 _ w1.heap.size k _ rfl (ownsMap_ext HOwn.out G2.out) (by unfold maxLen; omega) _ _ _ rfl rfl (Maps.keyOf_int_mk Try.underlying3 (WalkArith.wf_i64 (by omega))) _ [] (plainElem_int Try.underlying3 (WalkArith.wf_i64 (by omega))) ?_; intro w3 hown3 hgrow3; have HO3 := Lib.hid hown3; have HE3 := Lib.hid ((HExt.out.trans G2.out).grown hgrow3 (fun j hj => by cases hj; exact Nat.le_refl _)); clear hown3 hgrow3))
      go_roundw
      case rel => exact ⟨k + 1, by omega, by go_num, by (show World.ownsMap _ _ _ _ _ _ ((plD red k).put (.int .i64 (leadN (nthR red k))) (.lit (.int .i64 k)))); rw [← HL.out]; exact HO3.out, HE3.out⟩
      case measure => simp [intOf]; omega
    · obtain rfl : k = red.length := by omega
      have HM := HOwn
      have X2 := HExt
      have HRd := Lib.hid (HOb.out.ext X2.out)
      have GW := Lib.hid (X1.out.trans X2.out)
      clear HOwn HExt HOb
      rename World => wM
      go_wp2_with (fail)
      go_loopw [11, 36] (fun v i wq => ∃ (f g rc : Nat), f ≤ n ∧ i = .int .i64 f ∧ v = .slice (some ⟨g, 0, none⟩) (kerR p n red f).length rc ∧ OwnW wM.heap.size wq (some ⟨g, 0, none⟩) (kerR p n red f).length rc (kerR p n red f) ∧ Ext wM wq) (fun _ i _ => n - (intOf i).toNat)
      case atStart => exact ⟨0, _, _, Nat.zero_le _, rfl, rfl, OwnW.start _ _ _, ext_alloc _ _⟩
      case round =>
        obtain ⟨f, g, rc, hf, rfl, rfl, hown, hext⟩ := hrel
        rename World => wq
        have HOwn := Lib.hid hown
        have HExt := Lib.hid hext
        clear hown hext
        have hkl := kerR_len p n red f
        by_cases hlf : f < n
        · have hmap := ownsMap_ext HM.out HExt.out
          have hpiv := @plD_piv red f
          cases hp : pivIx red f with
          | some j =>
            rw [hp] at hpiv
            have HK := Lib.hid (kerR_no (p := p) (n := n) hp)
            have hhas : Maps.has (plD red red.length) (.int .i64 f) = true := hpiv
            clear hp hpiv
            go_wp2_with (at_lookup; refine wpList_lookup_own_ok_int _ rfl _ _ 80 rfl 3 3 .i64 lawK Try.underlying80 Try.underlying3 (zeroK _) w1.heap.size red.length _ rfl hmap _ _ rfl (Maps.keyOf_int_mk Try.underlying3 (WalkArith.wf_i64 (by omega))) ?_; intro c hat hwc; rw [hhas])
            go_roundw
            case rel => exact ⟨f + 1, g, rc, by omega, by go_num, by rw [HK.out], by rw [HK.out]; exact HOwn.out, HExt.out⟩
            case measure => simp [intOf]; omega
          | none =>
            rw [hp] at hpiv
            have HK := Lib.hid (kerR_yes (p := p) (n := n) hp)
            have HP := Lib.hid hp
            have hhas : Maps.has (plD red red.length) (.int .i64 f) = false := hpiv
            clear hp hpiv
            obtain ⟨w4, hmk, ho4, he4⟩ := make_ints wq n (by omega)
            obtain ⟨g0, hg0⟩ : ∃ g, g = wq.heap.size := ⟨_, rfl⟩
            rw [← hg0] at hmk ho4
            have HG0 := Lib.hid hg0
            have hge : wq.heap.size ≤ g0 := by omega
            have hgl : g0 < w4.heap.size := (ho4.base_of _ rfl).2
            have HO4 := Lib.hid ho4
            have HE4 := Lib.hid he4
            have hcg := ho4.cell hlf
            have hfz := ho4.frozen f
            have HM5 := Lib.hid (ownsMap_ext hmap (he4.setCell (p := ⟨g0, f, none⟩) hge (.int .i64 1)))
            clear ho4 he4 hg0
            go_wp2_with (first
              | (at_lookup; refine wpList_lookup_own_ok_int _ rfl _ _ 80 rfl 3 3 .i64 lawK Try.underlying80 Try.underlying3 (zeroK _) w1.heap.size red.length _ rfl hmap _ _ rfl (Maps.keyOf_int_mk Try.underlying3 (WalkArith.wf_i64 (by omega))) ?_; intro c hat hwc; rw [hhas])
              | (at_range; refine wpList_range_own _ rfl _ 80 rfl 3 3 lawK Try.underlying80 _ w1.heap.size red.length _ rfl HM5.out ?_; intro w6 hrg6 hg6 hs6))
            go_frame
            have hszg : (w4.setCell ⟨g0, f, none⟩ (.int .i64 1)).heap.size = w4.heap.size := by simp
            rw [hszg]
            clear hszg
            have X5 := Lib.hid (HE4.out.setCell (p := ⟨g0, f, none⟩) hge (.int .i64 1))
            have HO5 := Lib.hid (HO4.out.store hlf 1)
            have HSz := Lib.hid (show (w4.setCell ⟨g0, f, none⟩ (.int .i64 1)).heap.size = w4.heap.size by simp)
            obtain ⟨w5, hw5⟩ : ∃ w5, w5 = w4.setCell ⟨g0, f, none⟩ (.int .i64 1) := ⟨_, rfl⟩
            rw [← hw5] at hrg6 hg6 hs6 X5 HO5 HSz
            have hsz5 := HSz.out
            rw [hsz5] at hrg6
            have E6 := Lib.hid ((Ext.refl w5).grown hg6 (fun j hj => by cases hj))
            have HR6 := Lib.hid hrg6
            clear hcg hfz hmap hw5 hrg6 hg6 hs6 hmk hsz5
            go_loopw [53] (fun _ wz => ∃ (left : Lit → Bool) (cnt : Nat), wz.ranges Try.prog 3 (plainElem (H := Unit) Try.prog 3) w1.heap.size w4.heap.size red.length (plD red red.length) left cnt ∧ OwnC wq.heap.size wz (some ⟨g0, 0, none⟩) n n (kerP p n red f left) ∧ Ext wq wz) (fun _ wz => wz.rangeLeft w1.heap.size w4.heap.size)
            case atStart => exact ⟨_, _, HR6.out, by rw [kerP_start hlf]; exact (HO5.out.mono hge).ext E6.out, X5.out.trans E6.out⟩
            case round =>
              obtain ⟨left, cnt, hrg, hown, hext⟩ := hrel
              rename World => wz
              have HRg := Lib.hid hrg
              have HOz := Lib.hid hown
              have HEz := Lib.hid hext
              clear hrg hown hext
              go_wp2_with (at_next; refine wpList_next_ranges_ii _ rfl _ rfl 3 3 .i64 .i64 lawK Try.underlying3 Try.underlying3 w1.heap.size w4.heap.size red.length _ _ _ ?hit HRg.out ?_ ?_)
              case hit => simp [Act.eval]
              · intro _ hl0
                have HKE := Lib.hid (kerP_end (p := p) (n := n) (red := red) (f := f) hl0)
                clear hl0
                go_wp2_with (at_builtin; refine wpList_pushRW (w0 := wq) rfl (.tmp 71) (.tmp 73) rfl rfl rfl HOwn.out (HEz.out.trans (ext_alloc _ _)) (xs := kerV p n red f) (by rw [← HKE.out]; exact HOz.out.ext (ext_alloc _ _)) ?hc (by omega) HExt.out.size ?hk)
                case hc => exact cell_new _ _ rfl _ _
                case hk =>
                  intro g' cap' w9 ho9 he9
                  have HO9 := Lib.hid ho9
                  have HE9 := Lib.hid (he9 wM (Nat.le_refl _) ((HExt.out.trans HEz.out).alloc _))
                  clear ho9 he9
                  go_wp2_with (fail)
                  go_roundw
                  case rel => exact ⟨f + 1, g', cap', by omega, by go_num, by rw [HK.out, List.length_append]; rfl, by rw [HK.out, List.length_append]; exact .inr HO9.out, HE9.out⟩
                  case measure => simp [intOf]; omega
              · intro x c w7 cnt7 hwx hwc hlx hat hrg7 hlt7 hg7 hs7 hen
                obtain ⟨i, hi, rfl, rfl⟩ := plD_entry HBas.out hat
                have hjl := (HBas.out.good i hi).1
                have hlt : leadN (nthR red i) < n := by rw [HBas.out.leadN hi]; exact HBas.out.clt i hi
                have hbd := (HBas.out.good i hi).2 f hlf
                obtain ⟨ai, ci, hci, hoi⟩ := HRd.out.at hi
                rw [hjl] at hci hoi
                have HSt := Lib.hid (kerP_step (p := p) (n := n) (left := left) HBas.out hi hlt HP.out)
                have hw5 : wq.heap.size ≤ w4.heap.size := HE4.out.size'
                have HE7 := Lib.hid (HEz.out.grown hg7 (fun j hj => by cases hj; exact hw5))
                obtain ⟨bj, oj, rfl, hcm⟩ := hoi.rd.2 f (by omega)
                have hci7 := (HExt.out.trans HE7.out).cell hci
                have hcm7 := (HExt.out.trans HE7.out).cell hcm
                obtain ⟨u, hu⟩ : ∃ u, u = nth (nthR red i) f := ⟨_, rfl⟩
                rw [← hu] at hcm7 hbd HSt
                have hwn : IntKind.i64.wrap (-u) = -u := IntWalk.i64_in _ (by omega)
                have ho7 := HOz.out.grown hg7 (fun g hg => by cases hg; intro he; injection he with he; have := HSz.out; omega)
                obtain ⟨L, hL⟩ : ∃ L, L = leadN (nthR red i) := ⟨_, rfl⟩
                rw [← hL] at hlt HSt hrg7 hen hwx hlx
                have HO7 := Lib.hid ho7
                have HRg7 := Lib.hid hrg7
                have hcg := ho7.cell hlt
                have hfz := ho7.frozen L
                have HCnt := Lib.hid hlt7
                clear hci hoi hcm hat hlx hwx hwc ho7 hrg7 hL hu hg7 hs7 hlt7 hjl
                go_wp2_with (go_at_call 86; refine (c_num _ _ _ (by omega) (by omega)).mono ?_; rintro e w10 ⟨rfl, g10⟩; have G10 := Lib.hid g10; have hcg' := g10.cell hcg; have hfz' := (HO7.out.ext g10).frozen L; clear g10)
                go_roundw
                case rel => exact ⟨_, cnt7, ranges_keep (ranges_ext HRg7.out G10.out) (Below.heap_setCell _ _ _ _ (by show w1.heap.size ≠ g0; have := HExt.out.size'; have := HM.out.lt; omega)) (Below.heap_setCell _ _ _ _ (by show w4.heap.size ≠ g0; have := HSz.out; omega)), by rw [HSt.out]; exact (HO7.out.ext G10.out).store hlt _, (HE7.out.trans G10.out).setCell hge _⟩
                case measure =>
                  have h1 := HRg.out.left_eq
                  have h2 := (ranges_keep (w' := w10.setCell ⟨g0, L, none⟩ (.int .i64 (-u % p))) (ranges_ext HRg7.out G10.out) (Below.heap_setCell _ _ _ _ (by show w1.heap.size ≠ g0; have := HExt.out.size'; have := HM.out.lt; omega)) (Below.heap_setCell _ _ _ _ (by show w4.heap.size ≠ g0; have := HSz.out; omega))).left_eq
                  have h3 := HCnt.out
                  omega
        · obtain rfl : f = n := by omega
          go_wp2_with (go_at_call 84; refine (c_basis p (some ⟨g, 0, none⟩) (kerR p f red f).length rc f (kerR p f red f) _ HPR.out hn (by omega) (by omega) HOwn.out.rd (kerR_good (by omega))).mono ?_; rintro e w8 ⟨g8, c8, r, rfl, ho8, x8⟩; rw [← HKL.out] at ho8; obtain rfl := ho8.len; have HO8 := Lib.hid ho8; have X8 := Lib.hid x8; clear ho8 x8)
          go_ret
          exact ⟨g8, c8, rfl, HO8.out.mono (GW.out.trans HExt.out).size, GW.out.trans (HExt.out.trans X8.out)⟩
end Go.Proofs.Ytnabpmafcflljaa

/-
  Kernels: contract of the reference.
  No condition.
-/
namespace Go.Proofs.Ytnabpmafcflljaa
set_option maxRecDepth 100000
open Go.RowKit

/-- The places of the first numbers of the first k rows. -/
def pivL (red : List (List Int)) (k : Nat) : List Int := (List.range k).map fun i => ((leadN (nthR red i) : Nat) : Int)
theorem pivL_len (red : List (List Int)) (k : Nat) : (pivL red k).length = k := by simp [pivL]
theorem pivL_succ (red : List (List Int)) (k : Nat) : pivL red (k + 1) = pivL red k ++ [((leadN (nthR red k) : Nat) : Int)] := by simp [pivL, List.range_succ]
theorem pivL_nth {red : List (List Int)} {k i : Nat} (h : i < k) : nth (pivL red k) i = ((leadN (nthR red i) : Nat) : Int) := by
  unfold pivL; rw [nth_map (by simpa using h)]; simp
def inL (xs : List Int) (v : Int) : Bool := (List.range xs.length).any fun i => nth xs i == v
theorem inL_at {xs : List Int} {v : Int} {k : Nat} (hk : k < xs.length) (h : nth xs k = v) : inL xs v = true := by
  unfold inL
  rw [List.any_eq_true]
  exact ⟨k, List.mem_range.2 hk, by simp [h]⟩
theorem inL_none {xs : List Int} {v : Int} (h : ∀ k, k < xs.length → nth xs k ≠ v) : inL xs v = false := by
  unfold inL
  rw [List.any_eq_false]
  intro k hk
  simpa using h k (List.mem_range.1 hk)
theorem inL_piv {red : List (List Int)} {t : Nat} : inL (pivL red red.length) t = (pivIx red t).isSome := by
  cases h : pivIx red t with
  | none => exact inL_none (fun k hk => by rw [pivL_len] at hk; rw [pivL_nth hk]; have := pivIx_none h k hk; omega)
  | some i =>
    obtain ⟨h1, h2⟩ := pivIx_some h
    exact inL_at (k := i) (by rw [pivL_len]; exact h1) (by rw [pivL_nth h1]; omega)
/-- The vector when the first i rows have been gone through. -/
def kerF (p : Int) (red : List (List Int)) (f i t : Nat) : Int := if t = f then 1 else match pivIx red t with | some j => if j < i then (-(nth (nthR red j) f)) % p else 0 | none => 0
def kerI (p : Int) (n : Nat) (red : List (List Int)) (f i : Nat) : List Int := (List.range n).map (kerF p red f i)
theorem kerI_len (p : Int) (n : Nat) (red : List (List Int)) (f i : Nat) : (kerI p n red f i).length = n := by simp [kerI]
theorem kerI_nth {p : Int} {n : Nat} {red : List (List Int)} {f i t : Nat} (h : t < n) : nth (kerI p n red f i) t = kerF p red f i t := by
  unfold kerI; rw [nth_map (by simpa using h)]; simp
theorem kerI_zero {p : Int} {n : Nat} {red : List (List Int)} {f : Nat} (hf : f < n) : kerI p n red f 0 = bladeL n f := by
  refine ext_nth (by rw [kerI_len, bladeL_len]) (fun t ht => ?_)
  rw [kerI_len] at ht
  rw [kerI_nth ht, bladeL_nth hf ht]
  unfold kerF
  by_cases h : t = f
  · rw [if_pos h, if_pos h.symm]
  · rw [if_neg h, if_neg (fun e => h e.symm)]
    cases hp : pivIx red t with
    | none => rfl
    | some i => simp only [Nat.not_lt_zero, if_false]
theorem kerI_all {p : Int} {n : Nat} {red : List (List Int)} {f : Nat} : kerI p n red f red.length = kerV p n red f := by
  unfold kerI kerV
  refine List.map_congr_left fun t _ => ?_
  unfold kerF kerN
  cases hp : pivIx red t with
  | none => rfl
  | some i => simp only [(pivIx_some hp).1, if_true]
theorem kerI_step {p : Int} {m n : Nat} {red : List (List Int)} {c : Nat → Nat} (hb : Basis p m red c) {f i : Nat} (hi : i < red.length) (hx : leadN (nthR red i) < n) (hf : pivIx red f = none) :
    kerI p n red f (i + 1) = (kerI p n red f i).set (leadN (nthR red i)) ((-(nth (nthR red i) f)) % p) := by
  have hpi : pivIx red (leadN (nthR red i)) = some i := by rw [hb.leadN hi]; exact hb.piv hi
  have hne : leadN (nthR red i) ≠ f := fun e => by rw [e, hf] at hpi; cases hpi
  refine ext_nth (by rw [kerI_len, List.length_set, kerI_len]) (fun t ht => ?_)
  rw [kerI_len] at ht
  rw [kerI_nth ht, nth_set (by rw [kerI_len]; exact hx)]
  by_cases h : t = leadN (nthR red i)
  · subst h
    rw [if_pos rfl]
    unfold kerF
    rw [if_neg hne, hpi]
    simp only [Nat.lt_succ_self, if_true]
  · rw [if_neg (fun e => h e.symm), kerI_nth ht]
    unfold kerF
    by_cases htf : t = f
    · rw [if_pos htf, if_pos htf]
    · rw [if_neg htf, if_neg htf]
      cases hp : pivIx red t with
      | none => rfl
      | some j =>
        obtain ⟨h1, h2⟩ := pivIx_some hp
        have hji : j ≠ i := fun e => h (by rw [← h2, e])
        by_cases hlt : j < i
        · simp only [hlt, show j < i + 1 by omega, if_true]
        · simp only [hlt, show ¬ j < i + 1 by omega, if_false]
theorem neg_mod (p x : Int) : (p - x) % p = (-x) % p := by rw [show p - x = -x + p by omega, Int.add_emod_right]

set_option maxHeartbeats 400000 in
theorem s_index (a : Option Addr) (n cap : Nat) (xs : List Int) (v : Int) (w : World) (hl : n ≤ 4194303) (hx : RdC w a n xs) :
    Calls Try.prog 116 #[.slice a n cap, .int .i64 v] w fun e w' => ∃ r : Int, (e = .returned (.int .i64 r) ∧ (inL xs v = true ↔ 0 ≤ r)) ∧ Ext w w' := by
  have HX := Lib.hid hx
  clear hx
  go_enter Try.func116, Try.ntmps116
  go_wp2_with (fail)
  go_loopw [5] (fun i wr => ∃ k : Nat, k ≤ n ∧ i = .int .i64 k ∧ Hid (∀ j, j < k → nth xs j ≠ v) ∧ Ext w wr) (fun i _ => n - (intOf i).toNat)
  case atStart => exact ⟨0, Nat.zero_le _, rfl, Lib.hid (fun j hj => by omega), Ext.refl _⟩
  case round =>
    obtain ⟨k, hk, rfl, HT, hext⟩ := hrel
    by_cases hlt : k < n
    · obtain ⟨b, off, rfl, hc⟩ := HX.out.2 k hlt
      have hc' := hext.cell hc
      clear hc
      by_cases hz : nth xs k = v
      · have HZ := Lib.hid hz
        have hzb : (nth xs k == v) = true := by simp [hz]
        clear hz
        go_wp2_with (fail)
        go_ret
        have hi := inL_at (v := v) (by rw [HX.out.1]; exact hlt) HZ.out
        exact ⟨(k : Int), ⟨rfl, by rw [hi]; simp⟩, hext⟩
      · have HZ := Lib.hid hz
        have hzb : (nth xs k == v) = false := by simp [hz]
        clear hz
        go_wp2_with (fail)
        go_roundw
        case rel => exact ⟨k + 1, by omega, by go_num, Lib.hid (fun j hj => by
          by_cases hjk : j = k
          · subst hjk; exact HZ.out
          · exact HT.out j (by omega)), hext⟩
        case measure => simp [intOf]; omega
    · go_wp2_with (fail)
      go_ret
      have hi := inL_none (xs := xs) (v := v) (fun k' hk' => HT.out k' (by rw [HX.out.1] at hk'; omega))
      exact ⟨-1, ⟨rfl, by rw [hi]; simp⟩, hext⟩
set_option maxHeartbeats 400000 in
theorem s_has (a : Option Addr) (n cap : Nat) (xs : List Int) (v : Int) (w : World) (hl : n ≤ 4194303) (hx : RdC w a n xs) :
    Calls Try.prog 70 #[.slice a n cap, .int .i64 v] w fun e w' => e = .returned (.bool (inL xs v)) ∧ Ext w w' := by
  go_enter Try.func70, Try.ntmps70
  go_wp2_with (go_at_call 116; refine (s_index _ _ _ _ _ _ hl hx).mono ?_; rintro e w1 ⟨r, ⟨rfl, hr⟩, g1⟩)
  go_ret
  refine ⟨ret_bool ?_, g1⟩
  rw [Bool.eq_iff_iff, hr]
  simp

set_option maxHeartbeats 8000000 in
set_option maxRecDepth 100000 in
theorem s_kernel (p : Int) (a : Option Addr) (m cap n : Nat) (rows : List (List Int)) (w : World) (hpr : primeB p = true) (hm0 : 0 < m) (hn : 0 < n) (hn2 : n ≤ 4095) (hm : m ≤ 4095) (hx : RdR w a m rows) (hg : RowsG p n rows) :
    Calls Try.prog 43 #[.int .i64 p, .slice a m cap] w fun e w' => ∃ g rc, e = .returned (.slice (some ⟨g, 0, none⟩) (kernL p n rows).length rc) ∧ OwnR w.heap.size w' (some ⟨g, 0, none⟩) (kernL p n rows).length rc (kernL p n rows) ∧ Ext w w' := by
  have hpb := prime_bd hpr
  have hpz : ¬ p = 0 := by omega
  obtain ⟨cc, hbas⟩ := basis_red hpr hg
  have HPR := Lib.hid hpr
  have HX := Lib.hid hx
  have HG := Lib.hid hg
  obtain ⟨b0, off0, a0, c0, rfl, hc0, _⟩ := hx.2 0 hm0
  rw [(hg 0 (by rw [hx.1]; exact hm0)).1, Nat.add_zero] at hc0
  have HC0 := Lib.hid ((ext_drew w).cell hc0)
  obtain ⟨red, hred⟩ : ∃ red, red = basisL p n rows := ⟨_, rfl⟩
  have HBas := Lib.hid (show Basis p n red cc by rw [hred]; exact hbas)
  have HRed := Lib.hid hred
  have HKL := Lib.hid (show kernL p n rows = basisL p n (kerR p n red n) by unfold kernL; rw [hred])
  have hrl : red.length ≤ 4095 := by have := HBas.out.len; omega
  clear hx hg hbas hpr hred hc0
  go_enter Try.func43, Try.ntmps43
  go_wp2_with (fail)
  refine wp_region_lex [(2, .ownR w.heap.size red.length red)] (by kernel_rfl) (by kernel_rfl) ?_
  (refine LexW.pure (v := ?_) rfl rfl (fun w1 he => ?_) ?_; rotate_left; ( go_simp; rfl); simp only [Act.put, List.setIfInBounds_toArray, List.set_cons_zero, List.set_cons_succ])
  (refine LexW.pure (v := ?_) rfl rfl (fun w1 he => ?_) ?_; rotate_left; ( go_simp; rfl); simp only [Act.put, List.setIfInBounds_toArray, List.set_cons_zero, List.set_cons_succ])
  (refine LexW.callR (f := ?_) (args := ?_) rfl rfl (fun w1 => ?_) (fun w1 he hdep => ?_) (fun v hv => ?_); rotate_left 2; (go_simp; refine ⟨?_, ?_⟩ <;> rfl); ( refine (s_basis p _ m cap n rows w1 HPR.out hn (by omega) (by omega) (HX.out.ext ((ext_drew w).trans he)) HG.out).mono ?_; rintro e w2 ⟨g, rc, r, rfl, ho, g2⟩; rw [← HRed.out] at ho; obtain rfl := ho.len; exact ⟨_, rfl, g2, g, rc, rfl, ho.mono (Nat.le_trans (ext_drew w).size he.size)⟩); simp only [Act.put, List.setIfInBounds_toArray, List.set_cons_zero, List.set_cons_succ])
  obtain ⟨_, gb, cb, rfl, _⟩ := hv
  repeat' first | (refine LexW.pure (v := ?_) rfl rfl (fun w1 he => ?_) ?_; rotate_left; ( have e1 := he.cell HC0.out; go_simp; rfl); simp only [Act.put, List.setIfInBounds_toArray, List.set_cons_zero, List.set_cons_succ])
  refine LexW.nil (fun w3 he hkn => ?_)
  obtain ⟨_, _, q15, r15⟩ : (SPred.ownR w.heap.size red.length red).holds (.slice (some ⟨gb, 0, none⟩) red.length cb) w3 := hkn (2, _) (by simp)
  cases q15
  have HOb := Lib.hid r15
  have GW := Lib.hid ((ext_drew w).trans he)
  clear he hkn r15
  rename World => w1
  go_wp2_with (fail)
  go_loopw [7, 9] (fun v i wr => ∃ (k g rc : Nat), k ≤ red.length ∧ i = .int .i64 k ∧ v = .slice (some ⟨g, 0, none⟩) k rc ∧ OwnC w1.heap.size wr (some ⟨g, 0, none⟩) k rc (pivL red k) ∧ Ext w1 wr) (fun _ i _ => red.length - (intOf i).toNat)
  case atStart => exact ⟨0, _, _, Nat.zero_le _, rfl, rfl, (own_empty w1).ext (ext_alloc _ _), (ext_alloc _ _).alloc _⟩
  case round =>
    obtain ⟨k, gp, rp, hk, rfl, rfl, hown, hext⟩ := hrel
    have HOwn := Lib.hid hown
    have HExt := Lib.hid hext
    clear hown hext
    by_cases hlt : k < red.length
    · obtain ⟨aj, cj, hcj, hoj⟩ := HOb.out.at hlt
      have hjl := (HBas.out.good k hlt).1
      rw [hjl] at hcj hoj
      have hcj' := HExt.out.cell hcj
      have HOj := Lib.hid (hoj.rd.ext HExt.out)
      have hll : leadN (nthR red k) < n := by rw [HBas.out.leadN hlt]; exact HBas.out.clt k hlt
      have HFi := Lib.hid (show firstL (nthR red k) = ((leadN (nthR red k) : Nat) : Int) by unfold firstL; rw [if_neg (by rw [hjl]; omega)])
      obtain ⟨L, hL⟩ : ∃ L, L = leadN (nthR red k) := ⟨_, rfl⟩
      rw [← hL] at HFi
      have HL := Lib.hid hL
      clear hcj hoj hjl hL hll
      go_wp2_with (first
        | (go_at_call 80; refine (s_first aj n cj (nthR red k) _ (by omega) HOj.out).mono ?_; rintro e w2 ⟨rfl, g2⟩; rw [HFi.out]; have G2 := Lib.hid g2; clear g2)
        | (at_builtin; refine wpList_push rfl (.tmp 28) (.tmp 34) rfl rfl rfl (v := (L : Int)) (HOwn.out.ext (G2.out.trans (ext_alloc _ _))) ?hc ?hn ?hB ?hk))
      case hc => simp
      case hn => omega
      case hB => have hz := (HExt.out.trans G2.out).size'; simp; omega
      case hk =>
        intro g' cap' w3 ho3 hg3 he3
        have HO3 := Lib.hid ho3
        have HE3 := Lib.hid (he3 w1 (Nat.le_refl _) ((HExt.out.trans G2.out).alloc _))
        clear ho3 hg3 he3
        go_wp2_with (fail)
        go_roundw
        case rel => exact ⟨k + 1, g', cap', by omega, by go_num, rfl, by rw [pivL_succ, ← HL.out]; exact HO3.out, HE3.out⟩
        case measure => simp [intOf]; omega
    · obtain rfl : k = red.length := by omega
      have HPv := HOwn
      have X2 := HExt
      have HRd := Lib.hid (HOb.out.ext X2.out)
      have G2 := Lib.hid (GW.out.trans X2.out)
      clear HOwn HExt HOb
      rename World => wM
      go_wp2_with (fail)
      go_loopw [8, 10] (fun v i wq => ∃ (f g rc : Nat), f ≤ n ∧ i = .int .i64 f ∧ v = .slice (some ⟨g, 0, none⟩) (kerR p n red f).length rc ∧ OwnW wM.heap.size wq (some ⟨g, 0, none⟩) (kerR p n red f).length rc (kerR p n red f) ∧ Ext wM wq) (fun _ i _ => n - (intOf i).toNat)
      case atStart => exact ⟨0, _, _, Nat.zero_le _, rfl, rfl, OwnW.start _ _ _, Ext.refl _⟩
      case round =>
        obtain ⟨f, g, rc, hf, rfl, rfl, hown, hext⟩ := hrel
        rename World => wq
        have HOwn := Lib.hid hown
        have HExt := Lib.hid hext
        clear hown hext
        have hkl := kerR_len p n red f
        by_cases hlf : f < n
        · have hpiv := @inL_piv red f
          cases hp : pivIx red f with
          | some j =>
            rw [hp] at hpiv
            have HK := Lib.hid (kerR_no (p := p) (n := n) hp)
            have HIn : Hid (inL (pivL red red.length) f = true) := Lib.hid hpiv
            clear hp hpiv
            go_wp2_with (go_at_call 70; refine (s_has _ _ _ _ _ _ (by omega) (HPv.out.rd.ext HExt.out)).mono ?_; rintro e w4 ⟨rfl, g4⟩; rw [HIn.out]; have HE4 := Lib.hid (HExt.out.trans g4); have HO4 : Hid (OwnW wM.heap.size w4 (some ⟨g, 0, none⟩) (kerR p n red f).length rc (kerR p n red f)) := Lib.hid (by
              rcases HOwn.out with h | h
              · exact .inl h
              · exact .inr (h.ext g4)); clear g4)
            go_roundw
            case rel => exact ⟨f + 1, g, rc, by omega, by go_num, by rw [HK.out], by rw [HK.out]; exact HO4.out, HE4.out⟩
            case measure => simp [intOf]; omega
          | none =>
            rw [hp] at hpiv
            have HK := Lib.hid (kerR_yes (p := p) (n := n) hp)
            have HP := Lib.hid hp
            have HIn : Hid (inL (pivL red red.length) f = false) := Lib.hid hpiv
            clear hp hpiv
            go_wp2_with (go_at_call 70; refine (s_has _ _ _ _ _ _ (by omega) (HPv.out.rd.ext HExt.out)).mono ?_; rintro e w4 ⟨rfl, g4⟩; rw [HIn.out]; have HE4 := Lib.hid g4; clear g4)
            obtain ⟨w5, hmk, ho5, he5⟩ := make_ints w4 n (by omega)
            obtain ⟨g0, hg0⟩ : ∃ g, g = w4.heap.size := ⟨_, rfl⟩
            rw [← hg0] at hmk ho5
            have hge4 : w4.heap.size ≤ g0 := by omega
            have hge : wq.heap.size ≤ g0 := by have := HE4.out.size'; omega
            have HO5 := Lib.hid (ho5.mono hge4)
            have HE5 := Lib.hid (HE4.out.trans he5)
            have hcg := ho5.cell hlf
            have hfz := ho5.frozen f
            clear ho5 he5 hg0
            rw [hmk]
            go_wp2_with (fail)
            have X5 := Lib.hid (HE5.out.setCell (p := ⟨g0, f, none⟩) hge (.int .i64 1))
            have HOs := Lib.hid ((HO5.out.store hlf 1).mono HE4.out.size)
            clear hcg hfz hmk
            go_loopw [12] (fun i wz => ∃ (j : Nat), j ≤ red.length ∧ i = .int .i64 j ∧ OwnC wq.heap.size wz (some ⟨g0, 0, none⟩) n n (kerI p n red f j) ∧ Ext wq wz) (fun i _ => red.length - (intOf i).toNat)
            case atStart => exact ⟨0, Nat.zero_le _, rfl, by rw [kerI_zero hlf]; exact HOs.out, X5.out⟩
            case round =>
              obtain ⟨i, hi, rfl, hown, hext⟩ := hrel
              rename World => wz
              have HOz := Lib.hid hown
              have HEz := Lib.hid hext
              clear hown hext
              by_cases hli : i < red.length
              · have hjl := (HBas.out.good i hli).1
                have hlt : leadN (nthR red i) < n := by rw [HBas.out.leadN hli]; exact HBas.out.clt i hli
                have hbd := (HBas.out.good i hli).2 f hlf
                obtain ⟨ai, ci, hci, hoi⟩ := HRd.out.at hli
                rw [hjl] at hci hoi
                have HSt := Lib.hid (kerI_step (p := p) (n := n) HBas.out hli hlt HP.out)
                obtain ⟨bj, oj, rfl, hcm⟩ := hoi.rd.2 f (by omega)
                have hpc := HPv.out.cell hli
                rw [pivL_nth hli] at hpc
                have E7 := Lib.hid (HExt.out.trans (HEz.out.trans (ext_drew wz)))
                have HCi := Lib.hid (E7.out.cell hci)
                have HCm := Lib.hid (E7.out.cell hcm)
                have HPc := Lib.hid (E7.out.cell hpc)
                obtain ⟨u, hu⟩ : ∃ u, u = nth (nthR red i) f := ⟨_, rfl⟩
                rw [← hu] at HCm hbd HSt
                obtain ⟨L, hL⟩ : ∃ L, L = leadN (nthR red i) := ⟨_, rfl⟩
                rw [← hL] at hlt HSt HPc
                have hw1 : IntKind.i64.wrap (p - u) = p - u := IntWalk.i64_in _ (by omega)
                obtain ⟨Z, hZ⟩ : ∃ Z, Z = (-u) % p := ⟨_, rfl⟩
                have hw2 : (p - u).tmod p = Z := by rw [hZ, ← neg_mod]; exact Int.tmod_eq_emod_of_nonneg (by omega)
                rw [← hZ] at HSt
                clear hci hoi hcm hpc hjl hL hu hZ
                go_wp2_with (fail)
                refine wp_region_lex_tail 17 [] (by kernel_rfl) (by kernel_rfl) ?_
                simp only [List.take, List.drop]
                repeat' first | (refine LexW.pure (v := ?_) rfl rfl (fun w1 he => ?_) ?_; rotate_left; ( have e1 := he.cell HCi.out; have e2 := he.cell HCm.out; have e3 := he.cell HPc.out; go_simp; rfl); simp only [Act.put, List.setIfInBounds_toArray, List.set_cons_zero, List.set_cons_succ])
                refine LexW.nil (fun w8 he hkn => ?_)
                have X8 := Lib.hid ((ext_drew wz).trans he)
                clear he hkn
                have HO8 := Lib.hid (HOz.out.ext X8.out)
                have hcg := HO8.out.cell hlt
                have hfz := HO8.out.frozen L
                go_wp2_with (fail)
                go_roundw
                case rel => exact ⟨i + 1, by omega, by go_num, by rw [HSt.out]; exact HO8.out.store hlt _, (HEz.out.trans X8.out).setCell hge _⟩
                case measure => simp [intOf]; omega
              · obtain rfl : i = red.length := by omega
                have HKE := Lib.hid (kerI_all (p := p) (n := n) (red := red) (f := f))
                go_wp2_with (at_builtin; refine wpList_pushRW (w0 := wq) rfl (.tmp 72) (.tmp 74) rfl rfl rfl HOwn.out (HEz.out.trans (ext_alloc _ _)) (xs := kerV p n red f) (by rw [← HKE.out]; exact HOz.out.ext (ext_alloc _ _)) ?hc (by omega) HExt.out.size ?hk)
                case hc => exact cell_new _ _ rfl _ _
                case hk =>
                  intro g' cap' w9 ho9 he9
                  have HO9 := Lib.hid ho9
                  have HE9 := Lib.hid (he9 wM (Nat.le_refl _) ((HExt.out.trans HEz.out).alloc _))
                  clear ho9 he9
                  go_wp2_with (fail)
                  go_roundw
                  case rel => exact ⟨f + 1, g', cap', by omega, by go_num, by rw [HK.out, List.length_append]; rfl, by rw [HK.out, List.length_append]; exact .inr HO9.out, HE9.out⟩
                  case measure => simp [intOf]; omega
        · obtain rfl : f = n := by omega
          have HCnt := Lib.hid (kernL_cnt (n := f) (rows := rows) HPR.out)
          go_wp2_with (first
            | (go_at_call 79; refine (s_basis p (some ⟨g, 0, none⟩) (kerR p f red f).length rc f (kerR p f red f) _ HPR.out hn (by omega) (by omega) HOwn.out.rd (kerR_good (by omega))).mono ?_; rintro e w8 ⟨g8, c8, r, rfl, ho8, x8⟩; rw [← HKL.out] at ho8; obtain rfl := ho8.len; have HO8 := Lib.hid ho8; have X8 := Lib.hid x8; clear ho8 x8)
            | (go_at_call 81; refine (s_own2 _ _ _ f (kernL p f rows) _ hn (by omega) (by have := HCnt.out.1; omega) (fun i hi => (HCnt.out.2 i hi).1) HO8.out.rd).mono ?_; rintro e w9 ⟨g9, c9, rfl, ho9, x9⟩; have HO9 := Lib.hid ho9; have X9 := Lib.hid x9; clear ho9 x9))
          go_ret
          exact ⟨g9, c9, rfl, HO9.out.mono (Nat.le_trans (G2.out.trans HExt.out).size X8.out.size), G2.out.trans (HExt.out.trans (X8.out.trans X9.out))⟩
end Go.Proofs.Ytnabpmafcflljaa

/-
  The listed function LeftAnnihilatorOf.
  No condition.
-/
namespace Go.Proofs.Ytnabpmafcflljaa
set_option maxRecDepth 100000
open Go.RowKit

def annL (p : Int) (qs x : List Int) : List (List Int) := kernL p (2 ^ qs.length) (matM p qs x false)
theorem cntR_rows {p : Int} {N : Nat} {rows : List (List Int)} (hg : RowsG p N rows) (hN : N ≤ 64) : ∀ k, k ≤ rows.length → cntR rows k ≤ 64 * k
  | 0, _ => by simp [cntR]
  | k + 1, hk => by
    have h1 := cntR_rows hg hN k (by omega)
    have h2 := (hg k (by omega)).1
    unfold cntR
    omega
theorem ann_cnt {p : Int} {qs x : List Int} (hp : primeB p = true) (hq : qs.length ≤ 6) : (annL p qs x).length ≤ 1048576 ∧ cntR (annL p qs x) (annL p qs x).length ≤ 1048576 := by
  have h := kernL_cnt (n := 2 ^ qs.length) (rows := matM p qs x false) hp
  have h64 := pow_le64 hq
  have hl : (annL p qs x).length ≤ 64 := by have := h.1; unfold annL; omega
  have := cntR_rows (rows := annL p qs x) h.2 h64 _ (Nat.le_refl _)
  omega



end Go.Proofs.Ytnabpmafcflljaa

/-
  The listed function FixedVectors.
  No condition.
-/
namespace Go.Proofs.Ytnabpmafcflljaa
set_option maxRecDepth 100000
open Go.RowKit

def lessL (p : Int) (rows : List (List Int)) (d : Nat) : List (List Int) := sumM p rows (unitL d d) (-1) d d
def fixL (p : Int) (rows : List (List Int)) (d : Nat) : List (List Int) := kernL p d (lessL p rows d)
theorem unit_good {p : Int} {d : Nat} (hp : 3 ≤ p) : RowsG p d (unitL d d) := fun i hi => by
  rw [unitL_len] at hi
  rw [unitL_nth hi]; exact blade_good hp
theorem less_good {p : Int} {rows : List (List Int)} {d : Nat} (hp : 1 ≤ p) : RowsG p d (lessL p rows d) := fun i hi => by
  unfold lessL at hi ⊢
  rw [sumM_len] at hi
  rw [sumM_nth hi]; exact plus_good hp
/-- A row of the matrix less the unit matrix, as the reference makes it. -/
theorem less_row {p : Int} {x : List Int} {d i : Nat} {v : Int} (_hp : 3 ≤ p) (hx : Good p d x) (hi : i < d) (hv : v = (nth x i + p - 1) % p) : x.set i v = plusL p x (bladeL d i) (-1) d := by
  refine ext_nth (by rw [List.length_set, plusL_len, hx.1]) fun t ht => ?_
  rw [List.length_set, hx.1] at ht
  rw [plusL_nth ht, plusN, bladeL_nth hi ht, nth_set (by rw [hx.1]; exact hi)]
  by_cases h : i = t
  · subst h
    rw [if_pos rfl, if_pos rfl, hv]
    rw [show nth x i + p - 1 = (nth x i + -1 * 1) + p by omega, Int.add_emod_right]
  · rw [if_neg h, if_neg h]
    have := hx.2 t ht
    rw [show nth x t + -1 * 0 = nth x t by omega, Int.emod_eq_of_lt this.1 this.2]
theorem fix_cnt {p : Int} {rows : List (List Int)} {d : Nat} (hp : primeB p = true) (hd : d ≤ 6) : (fixL p rows d).length ≤ 1048576 ∧ cntR (fixL p rows d) (fixL p rows d).length ≤ 1048576 := by
  have h := kernL_cnt (n := d) (rows := lessL p rows d) hp
  have hl : (fixL p rows d).length ≤ 64 := by have := h.1; unfold fixL; omega
  have := cntR_rows (rows := fixL p rows d) h.2 (by omega) _ (Nat.le_refl _)
  omega

set_option maxHeartbeats 400000 in
theorem c_FixedVectors_bad (p : Int) (a : Option Addr) (d cap : Nat) (qs : List Int) (ax1 : Option Addr) (n1 cx1 : Nat) (xs1 : List (List Int)) (w : World) (hd : d ≤ 4194304) (hn1 : n1 ≤ 4194304) (hr1 : ∀ i, i < n1 → (nthR xs1 i).length ≤ 4194304) (hq : RdC w a d qs) (hx1 : RdR w ax1 n1 xs1) (hc : code8 p qs xs1 ≠ 0) :
    Calls Try.prog 22 #[.agg #[.int .i64 p, .slice a d cap], .slice ax1 n1 cx1] w fun e w' => ∃ ra rc, e = .returned (.tuple #[.slice ra 0 rc, .int .i64 (code8 p qs xs1)]) ∧ OwnR w.heap.size w' ra 0 rc [] ∧ Ext w w' := by
  have hcb : (code8 p qs xs1 != 0) = true := by simp [hc]
  have HQ := Lib.hid hq
  have HX := Lib.hid hx1
  have HR := Lib.hid hr1
  clear hc hq hx1 hr1
  go_enter Try.func22, Try.ntmps22
  go_wp2_with (go_at_call 44; refine (c_checkOrth p a _ cap qs ax1 _ cx1 xs1 _ hd hn1 HR.out (HQ.out.ext (ext_alloc _ _)) (HX.out.ext (ext_alloc _ _))).mono ?_; rintro e w1 ⟨rfl, g1⟩)
  go_ret2
  exact ⟨none, 0, rfl, OwnR.nil _ _, (ext_alloc _ _).trans g1⟩
set_option maxHeartbeats 8000000 in
set_option maxRecDepth 100000 in
theorem c_FixedVectors_ok (p : Int) (a : Option Addr) (d cap : Nat) (qs : List Int) (ax1 : Option Addr) (n1 cx1 : Nat) (xs1 : List (List Int)) (w : World) (hd : d ≤ 4194304) (hn1 : n1 ≤ 4194304) (hr1 : ∀ i, i < n1 → (nthR xs1 i).length ≤ 4194304) (hq : RdC w a d qs) (hx1 : RdR w ax1 n1 xs1) (hc : code8 p qs xs1 = 0) :
    Calls Try.prog 22 #[.agg #[.int .i64 p, .slice a d cap], .slice ax1 n1 cx1] w fun e w' => ∃ ra rc, e = .returned (.tuple #[.slice ra (fixL p xs1 d).length rc, .int .i64 0]) ∧ OwnR w.heap.size w' ra (fixL p xs1 d).length rc (fixL p xs1 d) ∧ Ext w w' := by
  obtain ⟨hs, hrg, hiso⟩ := code8_zero hc
  obtain ⟨hpr, hd1, hd6, hqb⟩ := space_of hs
  have hpb := prime_bd hpr
  have hpz : ¬ p = 0 := by omega
  have hqd := hq.1
  rw [hqd] at hd1 hd6 hiso
  obtain ⟨him, hil, hiw, _, _⟩ := isoB_of hiso
  have hn1d := hx1.1.symm.trans hil
  subst hn1d
  have HGR := Lib.hid (show RowsG p n1 xs1 from mat_good him hiw)
  have HLN := Lib.hid hil
  have HPR := Lib.hid hpr
  have HC := Lib.hid hc
  have HQ := Lib.hid hq
  have HX := Lib.hid hx1
  have HR := Lib.hid hr1
  have hcb : ((0 : Int) != 0) = false := by simp
  clear hc hs hrg hiso hpr hqb him hil hiw hqd hq hx1 hr1
  go_enter Try.func22, Try.ntmps22
  go_wp2_with (go_at_call 44; refine (c_checkOrth p a _ cap qs ax1 _ cx1 xs1 _ hd hn1 HR.out (HQ.out.ext (ext_alloc _ _)) (HX.out.ext (ext_alloc _ _))).mono ?_; rintro e w1 ⟨rfl, g1⟩; rw [HC.out]; have hq0 : w1.cell? ⟨w.heap.size, 0, none⟩ = some (.int .i64 p) := g1.cell (by simp); have hq1 : w1.cell? ⟨w.heap.size, 1, none⟩ = some (.slice a n1 cap) := g1.cell (by simp))
  have HS0 := Lib.hid ((ext_drew _).cell hq0)
  have HS1 := Lib.hid ((ext_drew _).cell hq1)
  have GW := Lib.hid ((((ext_alloc w (.cells #[.int .i64 p, .slice a n1 cap] 30))).trans g1).trans (ext_drew _))
  clear g1 hq0 hq1
  refine wp_region_lex [(1, .val (.int .i64 p)), (3, .val (.int .i64 p)), (6, .val (.int .i64 n1)), (7, .ownR w.heap.size n1 (unitL n1 n1)), (8, .ownR w.heap.size n1 (lessL p xs1 n1)), (10, .val (.int .i64 n1)), (11, .ownR w.heap.size (kernL p n1 (lessL p xs1 n1)).length ((kernL p n1 (lessL p xs1 n1))))] (by kernel_rfl) (by kernel_rfl) ?_
  (refine LexW.pure (v := ?_) rfl rfl (fun w1 he => ?_) ?_; rotate_left; ( have e1 := he.cell HS0.out; have e2 := he.cell HS1.out; go_simp; rfl); simp only [Act.put, List.setIfInBounds_toArray, List.set_cons_zero, List.set_cons_succ])
  (refine LexW.call (f := ?_) (args := ?_) rfl rfl (fun w1 => ?_) (fun w1 he hdep => ?_) ?_; rotate_left 2; (go_simp; refine ⟨?_, ?_⟩ <;> rfl); ( exact c_field p _ w1); simp only [Act.put, List.setIfInBounds_toArray, List.set_cons_zero, List.set_cons_succ])
  (refine LexW.pure (v := ?_) rfl rfl (fun w1 he => ?_) ?_; rotate_left; ( have e1 := he.cell HS0.out; have e2 := he.cell HS1.out; go_simp; rfl); simp only [Act.put, List.setIfInBounds_toArray, List.set_cons_zero, List.set_cons_succ])
  (refine LexW.call (f := ?_) (args := ?_) rfl rfl (fun w1 => ?_) (fun w1 he hdep => ?_) ?_; rotate_left 2; (go_simp; refine ⟨?_, ?_⟩ <;> rfl); ( exact c_field p _ w1); simp only [Act.put, List.setIfInBounds_toArray, List.set_cons_zero, List.set_cons_succ])
  (refine LexW.pure (v := ?_) rfl rfl (fun w1 he => ?_) ?_; rotate_left; ( have e1 := he.cell HS0.out; have e2 := he.cell HS1.out; go_simp; rfl); simp only [Act.put, List.setIfInBounds_toArray, List.set_cons_zero, List.set_cons_succ])
  (refine LexW.pure (v := ?_) rfl rfl (fun w1 he => ?_) ?_; rotate_left; ( have e1 := he.cell HS0.out; have e2 := he.cell HS1.out; go_simp; rfl); simp only [Act.put, List.setIfInBounds_toArray, List.set_cons_zero, List.set_cons_succ])
  (refine LexW.call (f := ?_) (args := ?_) rfl rfl (fun w1 => ?_) (fun w1 he hdep => ?_) ?_; rotate_left 2; (go_simp; refine ⟨?_, ?_⟩ <;> rfl); ( exact c_dim _ _ _ _ _); simp only [Act.put, List.setIfInBounds_toArray, List.set_cons_zero, List.set_cons_succ])
  (refine LexW.callR (f := ?_) (args := ?_) rfl rfl (fun w1 => ?_) (fun w1 he hdep => ?_) (fun v hv => ?_); rotate_left 2; (go_simp; refine ⟨?_, ?_⟩ <;> rfl); ( refine (c_unit n1 w1 (by omega)).mono ?_; rintro e w2 ⟨g, rc, rfl, ho, g2⟩; exact ⟨_, rfl, g2, g, rc, rfl, ho.mono (Nat.le_trans GW.out.size he.size)⟩); simp only [Act.put, List.setIfInBounds_toArray, List.set_cons_zero, List.set_cons_succ])
  obtain ⟨_, g20, c20, rfl, _⟩ := hv
  (refine LexW.callR (f := ?_) (args := ?_) rfl rfl (fun w1 => ?_) (fun w1 he hdep => ?_) (fun v hv => ?_); rotate_left 2; (go_simp; refine ⟨?_, ?_⟩ <;> rfl); ( obtain ⟨_, _, q20, r20⟩ : (SPred.ownR w.heap.size n1 (unitL n1 n1)).holds (.slice (some ⟨g20, 0, none⟩) n1 c20) w1 := hdep (7, 20) (by decide +kernel); cases q20; refine (c_sum p _ _ n1 n1 _ _ xs1 (unitL n1 n1) (-1) w1 (by omega) (by omega) (by omega) (by omega) (by omega) (HX.out.ext (GW.out.trans he)) r20.rd HGR.out (unit_good (by omega))).mono ?_; rintro e w2 ⟨g, rc, rfl, ho, g2⟩; exact ⟨_, rfl, g2, g, rc, rfl, ho.mono (Nat.le_trans GW.out.size he.size)⟩); simp only [Act.put, List.setIfInBounds_toArray, List.set_cons_zero, List.set_cons_succ])
  obtain ⟨_, g21, c21, rfl, _⟩ := hv
  (refine LexW.pure (v := ?_) rfl rfl (fun w1 he => ?_) ?_; rotate_left; ( have e1 := he.cell HS0.out; have e2 := he.cell HS1.out; go_simp; rfl); simp only [Act.put, List.setIfInBounds_toArray, List.set_cons_zero, List.set_cons_succ])
  (refine LexW.call (f := ?_) (args := ?_) rfl rfl (fun w1 => ?_) (fun w1 he hdep => ?_) ?_; rotate_left 2; (go_simp; refine ⟨?_, ?_⟩ <;> rfl); ( exact c_dim _ _ _ _ _); simp only [Act.put, List.setIfInBounds_toArray, List.set_cons_zero, List.set_cons_succ])
  (refine LexW.callR (f := ?_) (args := ?_) rfl rfl (fun w1 => ?_) (fun w1 he hdep => ?_) (fun v hv => ?_); rotate_left 2; (go_simp; refine ⟨?_, ?_⟩ <;> rfl); ( obtain ⟨_, _, q21, r21⟩ : (SPred.ownR w.heap.size n1 (lessL p xs1 n1)).holds (.slice (some ⟨g21, 0, none⟩) n1 c21) w1 := hdep (8, 21) (by decide +kernel); cases q21; refine (c_kernel p _ n1 _ n1 (lessL p xs1 n1) w1 HPR.out (by omega) (by omega) (by omega) r21.rd (less_good (by omega))).mono ?_; rintro e w2 ⟨g, rc, rfl, ho, g2⟩; exact ⟨_, rfl, g2, g, rc, rfl, ho.mono (Nat.le_trans GW.out.size he.size)⟩); simp only [Act.put, List.setIfInBounds_toArray, List.set_cons_zero, List.set_cons_succ])
  obtain ⟨_, g24, c24, rfl, _⟩ := hv
  (refine LexW.pure (v := ?_) rfl rfl (fun w1 he => ?_) ?_; rotate_left; ( have e1 := he.cell HS0.out; have e2 := he.cell HS1.out; go_simp; rfl); simp only [Act.put, List.setIfInBounds_toArray, List.set_cons_zero, List.set_cons_succ])
  (refine LexW.pure (v := ?_) rfl rfl (fun w1 he => ?_) ?_; rotate_left; ( have e1 := he.cell HS0.out; have e2 := he.cell HS1.out; go_simp; rfl); simp only [Act.put, List.setIfInBounds_toArray, List.set_cons_zero, List.set_cons_succ])
  refine LexW.nil (fun w3 he hkn => ?_)
  obtain ⟨_, _, q24, r24⟩ : (SPred.ownR w.heap.size (kernL p n1 (lessL p xs1 n1)).length ((kernL p n1 (lessL p xs1 n1)))).holds (.slice (some ⟨g24, 0, none⟩) (kernL p n1 (lessL p xs1 n1)).length c24) w3 := hkn (11, _) (by simp)
  cases q24
  have R24 := Lib.hid r24
  have HE := Lib.hid (GW.out.trans he)
  clear he hkn r24
  go_wp2_with (fail)
  go_ret2
  exact ⟨_, _, rfl, R24.out, HE.out⟩

set_option maxHeartbeats 400000 in
theorem s_FixedVectors_bad (p : Int) (a : Option Addr) (d cap : Nat) (qs : List Int) (ax1 : Option Addr) (n1 cx1 : Nat) (xs1 : List (List Int)) (w : World) (hd : d ≤ 4194304) (hn1 : n1 ≤ 4194304) (hr1 : ∀ i, i < n1 → (nthR xs1 i).length ≤ 4194304) (hq : RdC w a d qs) (hx1 : RdR w ax1 n1 xs1) (hc : code8 p qs xs1 ≠ 0) :
    Calls Try.prog 21 #[.agg #[.int .i64 p, .slice a d cap], .slice ax1 n1 cx1] w fun e w' => ∃ ra rc, e = .returned (.tuple #[.slice ra 0 rc, .int .i64 (code8 p qs xs1)]) ∧ OwnR w.heap.size w' ra 0 rc [] ∧ Ext w w' := by
  have hcb : (code8 p qs xs1 != 0) = true := by simp [hc]
  have HQ := Lib.hid hq
  have HX := Lib.hid hx1
  have HR := Lib.hid hr1
  clear hc hq hx1 hr1
  go_enter Try.func21, Try.ntmps21
  go_wp2_with (go_at_call 41; refine (s_code8 p a _ cap qs ax1 _ cx1 xs1 _ hd hn1 HR.out (HQ.out.ext (ext_alloc _ _)) (HX.out.ext (ext_alloc _ _))).mono ?_; rintro e w1 ⟨rfl, g1⟩)
  go_ret2
  exact ⟨none, 0, rfl, OwnR.nil _ _, (ext_alloc _ _).trans g1⟩
set_option maxHeartbeats 8000000 in
set_option maxRecDepth 100000 in
theorem s_FixedVectors_ok (p : Int) (a : Option Addr) (d cap : Nat) (qs : List Int) (ax1 : Option Addr) (n1 cx1 : Nat) (xs1 : List (List Int)) (w : World) (hd : d ≤ 4194304) (hn1 : n1 ≤ 4194304) (hr1 : ∀ i, i < n1 → (nthR xs1 i).length ≤ 4194304) (hq : RdC w a d qs) (hx1 : RdR w ax1 n1 xs1) (hc : code8 p qs xs1 = 0) :
    Calls Try.prog 21 #[.agg #[.int .i64 p, .slice a d cap], .slice ax1 n1 cx1] w fun e w' => ∃ ra rc, e = .returned (.tuple #[.slice ra (fixL p xs1 d).length rc, .int .i64 0]) ∧ OwnR w.heap.size w' ra (fixL p xs1 d).length rc (fixL p xs1 d) ∧ Ext w w' := by
  obtain ⟨hs, hrg, hiso⟩ := code8_zero hc
  obtain ⟨hpr, hd1, hd6, hqb⟩ := space_of hs
  have hpb := prime_bd hpr
  have hpz : ¬ p = 0 := by omega
  have hqd := hq.1
  rw [hqd] at hd1 hd6 hiso
  obtain ⟨him, hil, hiw, _, _⟩ := isoB_of hiso
  have hn1d := hx1.1.symm.trans hil
  subst hn1d
  have HGR := Lib.hid (show RowsG p n1 xs1 from mat_good him hiw)
  have HLN := Lib.hid hil
  have HPR := Lib.hid hpr
  have HC := Lib.hid hc
  have HQ := Lib.hid hq
  have HX := Lib.hid hx1
  have HR := Lib.hid hr1
  have hcb : ((0 : Int) != 0) = false := by simp
  clear hc hs hrg hiso hpr hqb him hil hiw hqd hq hx1 hr1
  go_enter Try.func21, Try.ntmps21
  go_wp2_with (go_at_call 41; refine (s_code8 p a _ cap qs ax1 _ cx1 xs1 _ hd hn1 HR.out (HQ.out.ext (ext_alloc _ _)) (HX.out.ext (ext_alloc _ _))).mono ?_; rintro e w1 ⟨rfl, g1⟩; rw [HC.out]; have hq0 : w1.cell? ⟨w.heap.size, 0, none⟩ = some (.int .i64 p) := g1.cell (by simp); have hq1 : w1.cell? ⟨w.heap.size, 1, none⟩ = some (.slice a n1 cap) := g1.cell (by simp))
  have HS0 := Lib.hid hq0
  have GW := Lib.hid (((ext_alloc w (.cells #[.int .i64 p, .slice a n1 cap] 30))).trans g1)
  clear g1 hq0 hq1
  go_loopw [7, 8] (fun v i wr => ∃ (k g rc : Nat), k ≤ n1 ∧ i = .int .i64 k ∧ v = .slice (some ⟨g, 0, none⟩) k rc ∧ Hid (OwnR w1.heap.size wr (some ⟨g, 0, none⟩) k rc (sumM p xs1 (unitL n1 n1) (-1) n1 k)) ∧ Hid (Ext w1 wr)) (fun _ i _ => n1 - (intOf i).toNat)
  case atStart => exact ⟨0, _, _, Nat.zero_le _, rfl, rfl, Lib.hid (ownR_empty w1), Lib.hid (ext_alloc _ _)⟩
  case round =>
    rename World => y
    obtain ⟨k, g, rc, hk, rfl, rfl, HO, HY⟩ := hrel
    by_cases hlt : k < n1
    · obtain ⟨bm, om, ar, cr, rfl, hck, hrk⟩ := HX.out.2 k hlt
      have HGK := Lib.hid (HGR.out k (by rw [HLN.out]; exact hlt))
      rw [HGK.out.1] at hck hrk
      obtain ⟨br, or, rfl, _⟩ := hrk.2 0 (by omega)
      have hcy := (GW.out.trans HY.out).cell hck
      have HRK := Lib.hid (hrk.ext (GW.out.trans HY.out))
      clear hck hrk
      go_wp2_with (fail)
      clear hcy
      refine Calls.mono (s_own br or n1 cr (nthR xs1 k) y (by omega) (by omega) HRK.out) ?_
      rintro e y2 ⟨g2, c2, rfl, ho2, x2⟩
      have HO2 := Lib.hid ho2
      have X2 := Lib.hid x2
      obtain ⟨xv, hxv⟩ : ∃ x, x = nth (nthR xs1 k) k := ⟨_, rfl⟩
      have hxb : 0 ≤ xv ∧ xv < p := by rw [hxv]; exact HGK.out.2 k hlt
      have hgy := Lib.hid (ho2.base_le).1
      have hc2 := (ext_drew y2).cell (ho2.cell hlt)
      rw [← hxv] at hc2
      have HC2 := Lib.hid hc2
      have HXV := Lib.hid hxv
      have HS := Lib.hid (((HY.out.trans x2).trans (ext_drew y2)).cell HS0.out)
      obtain ⟨s1, hs1⟩ : ∃ x, x = xv + p := ⟨_, rfl⟩
      obtain ⟨s2, hs2⟩ : ∃ x, x = s1 - 1 := ⟨_, rfl⟩
      obtain ⟨s3, hs3⟩ : ∃ x, x = s2 % p := ⟨_, rfl⟩
      have W1 := Lib.hid (show IntKind.i64.wrap (xv + p) = s1 by rw [hs1]; exact IntWalk.i64_in _ (by omega))
      have W2 := Lib.hid (show IntKind.i64.wrap (s1 - 1) = s2 by rw [hs2]; exact IntWalk.i64_in _ (by omega))
      have W3 := Lib.hid (show s2.tmod p = s3 by rw [hs3]; exact Int.tmod_eq_emod_of_nonneg (by omega))
      have HV := Lib.hid (show s3 = (nth (nthR xs1 k) k + p - 1) % p by rw [hs3, hs2, hs1, HXV.out])
      clear ho2 x2 hc2 hxv hs1 hs2 hs3
      go_wp2_with (fail)
      refine wp_region_lex_tail 14 [] (by kernel_rfl) (by kernel_rfl) ?_
      simp only [List.take, List.drop]
      (refine LexW.pure (v := ?_) rfl rfl (fun w1 he => ?_) ?_; rotate_left; ( have e1 := he.cell HC2.out; have e2 := he.cell HS.out; have e3 := W1.out; have e4 := W2.out; have e5 := W3.out; go_simp; rfl); simp only [Act.put, List.setIfInBounds_toArray, List.set_cons_zero, List.set_cons_succ])
      (refine LexW.pure (v := ?_) rfl rfl (fun w1 he => ?_) ?_; rotate_left; ( have e1 := he.cell HC2.out; have e2 := he.cell HS.out; have e3 := W1.out; have e4 := W2.out; have e5 := W3.out; go_simp; rfl); simp only [Act.put, List.setIfInBounds_toArray, List.set_cons_zero, List.set_cons_succ])
      (refine LexW.pure (v := ?_) rfl rfl (fun w1 he => ?_) ?_; rotate_left; ( have e1 := he.cell HC2.out; have e2 := he.cell HS.out; have e3 := W1.out; have e4 := W2.out; have e5 := W3.out; go_simp; rfl); simp only [Act.put, List.setIfInBounds_toArray, List.set_cons_zero, List.set_cons_succ])
      (refine LexW.pure (v := ?_) rfl rfl (fun w1 he => ?_) ?_; rotate_left; ( have e1 := he.cell HC2.out; have e2 := he.cell HS.out; have e3 := W1.out; have e4 := W2.out; have e5 := W3.out; go_simp; rfl); simp only [Act.put, List.setIfInBounds_toArray, List.set_cons_zero, List.set_cons_succ])
      (refine LexW.pure (v := ?_) rfl rfl (fun w1 he => ?_) ?_; rotate_left; ( have e1 := he.cell HC2.out; have e2 := he.cell HS.out; have e3 := W1.out; have e4 := W2.out; have e5 := W3.out; go_simp; rfl); simp only [Act.put, List.setIfInBounds_toArray, List.set_cons_zero, List.set_cons_succ])
      (refine LexW.pure (v := ?_) rfl rfl (fun w1 he => ?_) ?_; rotate_left; ( have e1 := he.cell HC2.out; have e2 := he.cell HS.out; have e3 := W1.out; have e4 := W2.out; have e5 := W3.out; go_simp; rfl); simp only [Act.put, List.setIfInBounds_toArray, List.set_cons_zero, List.set_cons_succ])
      (refine LexW.pure (v := ?_) rfl rfl (fun w1 he => ?_) ?_; rotate_left; ( have e1 := he.cell HC2.out; have e2 := he.cell HS.out; have e3 := W1.out; have e4 := W2.out; have e5 := W3.out; go_simp; rfl); simp only [Act.put, List.setIfInBounds_toArray, List.set_cons_zero, List.set_cons_succ])
      (refine LexW.pure (v := ?_) rfl rfl (fun w1 he => ?_) ?_; rotate_left; ( have e1 := he.cell HC2.out; have e2 := he.cell HS.out; have e3 := W1.out; have e4 := W2.out; have e5 := W3.out; go_simp; rfl); simp only [Act.put, List.setIfInBounds_toArray, List.set_cons_zero, List.set_cons_succ])
      (refine LexW.pure (v := ?_) rfl rfl (fun w1 he => ?_) ?_; rotate_left; ( have e1 := he.cell HC2.out; have e2 := he.cell HS.out; have e3 := W1.out; have e4 := W2.out; have e5 := W3.out; go_simp; rfl); simp only [Act.put, List.setIfInBounds_toArray, List.set_cons_zero, List.set_cons_succ])
      (refine LexW.pure (v := ?_) rfl rfl (fun w1 he => ?_) ?_; rotate_left; ( have e1 := he.cell HC2.out; have e2 := he.cell HS.out; have e3 := W1.out; have e4 := W2.out; have e5 := W3.out; go_simp; rfl); simp only [Act.put, List.setIfInBounds_toArray, List.set_cons_zero, List.set_cons_succ])
      (refine LexW.pure (v := ?_) rfl rfl (fun w1 he => ?_) ?_; rotate_left; ( have e1 := he.cell HC2.out; have e2 := he.cell HS.out; have e3 := W1.out; have e4 := W2.out; have e5 := W3.out; go_simp; rfl); simp only [Act.put, List.setIfInBounds_toArray, List.set_cons_zero, List.set_cons_succ])
      (refine LexW.pure (v := ?_) rfl rfl (fun w1 he => ?_) ?_; rotate_left; ( have e1 := he.cell HC2.out; have e2 := he.cell HS.out; have e3 := W1.out; have e4 := W2.out; have e5 := W3.out; go_simp; rfl); simp only [Act.put, List.setIfInBounds_toArray, List.set_cons_zero, List.set_cons_succ])
      (refine LexW.pure (v := ?_) rfl rfl (fun w1 he => ?_) ?_; rotate_left; ( have e1 := he.cell HC2.out; have e2 := he.cell HS.out; have e3 := W1.out; have e4 := W2.out; have e5 := W3.out; go_simp; rfl); simp only [Act.put, List.setIfInBounds_toArray, List.set_cons_zero, List.set_cons_succ])
      (refine LexW.pure (v := ?_) rfl rfl (fun w1 he => ?_) ?_; rotate_left; ( have e1 := he.cell HC2.out; have e2 := he.cell HS.out; have e3 := W1.out; have e4 := W2.out; have e5 := W3.out; go_simp; rfl); simp only [Act.put, List.setIfInBounds_toArray, List.set_cons_zero, List.set_cons_succ])
      refine LexW.nil (fun w3 he hkn => ?_)
      have HE := Lib.hid he
      clear he hkn 
      rename World => y3
      have HO3 := Lib.hid (HO2.out.ext ((ext_drew y2).trans HE.out))
      have X3 := Lib.hid (X2.out.trans ((ext_drew y2).trans HE.out))
      have hcz := HO3.out.cell hlt
      have hfz := HO3.out.frozen k
      go_wp2_with (at_builtin; refine wpList_pushR (w0 := y) rfl (.tmp 42) (.tmp 44) rfl rfl rfl HO.out ((X3.out.setCell hgy.out _).trans (ext_alloc _ _)) (xs := plusL p (nthR xs1 k) (bladeL n1 k) (-1) n1) (by rw [← less_row (by omega) HGK.out hlt HV.out]; exact ((HO3.out.store hlt s3).ext (ext_alloc _ _))) ?hc (by omega) HY.out.size ?hk)
      case hc => exact cell_new _ _ (by simp) _ _
      case hk =>
        intro g' cap' w5 ho5 hg5 he5
        have HO5 := Lib.hid ho5
        have HE5 := Lib.hid (he5 w1 (Nat.le_refl _) ((HY.out.trans (X3.out.setCell hgy.out _)).alloc _))
        clear ho5 hg5 he5
        go_wp2_with (fail)
        go_roundw
        case rel => exact ⟨k + 1, g', cap', by omega, by go_num, rfl, Lib.hid (by rw [sumM_succ, unitL_nth hlt]; exact HO5.out), HE5⟩
        case measure => simp [intOf]; omega
    · obtain rfl : k = n1 := by omega
      have s0 := HY.out.cell HS0.out
      go_wp2_with (fail)
      refine Calls.mono (s_kernel p _ k _ k (lessL p xs1 k) y HPR.out (by omega) (by omega) (by omega) (by omega) HO.out.rd (less_good (by omega))) ?_
      rintro e y2 ⟨g2, c2, rfl, ho2, x2⟩
      have R2 := Lib.hid ho2
      have HE := Lib.hid (GW.out.trans (HY.out.trans x2))
      have hsz := Lib.hid (GW.out.trans HY.out).size
      clear ho2 x2 s0
      go_wp2_with (fail)
      go_ret2
      exact ⟨_, _, rfl, R2.out.mono hsz.out, HE.out⟩

end Go.Proofs.Ytnabpmafcflljaa

/-
  The Cayley transform of a square matrix, in the program.
  No condition.
-/
namespace Go.Proofs.Ytnabpmafcflljaa
set_option maxRecDepth 100000
open Go.RowKit

/-- one and a multiple of a matrix -/
def oneM (p : Int) (rows : List (List Int)) (d : Nat) (k : Int) : List (List Int) := sumM p (unitL d d) rows k d d
theorem oneM_len (p : Int) (rows : List (List Int)) (d : Nat) (k : Int) : (oneM p rows d k).length = d := sumM_len ..
theorem oneM_good {p : Int} {rows : List (List Int)} {d : Nat} {k : Int} (hp : 1 ≤ p) : RowsG p d (oneM p rows d k) := sumM_good hp
def cayM (p : Int) (rows : List (List Int)) (d : Nat) : List (List Int) := mulL p (invM p d (oneM p rows d 1)) (oneM p rows d (-1)) d d d
theorem inv_one_good {p : Int} {rows : List (List Int)} {d : Nat} (hp : primeB p = true) (h0 : 0 < d) (hD : detL p d (oneM p rows d 1) ≠ 0) : RowsG p d (invM p d (oneM p rows d 1)) :=
  invM_good hp (oneM_good (by have := prime_bd hp; omega)) (oneM_len ..) (invW_yes hp (oneM_good (by have := prime_bd hp; omega)) (oneM_len ..) hD h0).1
theorem invM_len (p : Int) (n : Nat) (A : List (List Int)) : (invM p n A).length = n := cutM_len ..

set_option maxHeartbeats 8000000 in
set_option maxRecDepth 100000 in
theorem c_cayley (p : Int) (a : Option Addr) (d cap : Nat) (_qs : List Int) (ax1 : Option Addr) (cx1 : Nat) (xs1 : List (List Int)) (w : World) (hpr : primeB p = true) (hd0 : 0 < d) (hd : d ≤ 6) (hx1 : RdR w ax1 d xs1) (hg : RowsG p d xs1) :
    Calls Try.prog 54 #[.agg #[.int .i64 p, .slice a d cap], .slice ax1 d cx1] w fun e w' => (detL p d (oneM p xs1 d 1) = 0 ∧ e = .returned (.tuple #[.slice none 0 0, .bool false]) ∧ Ext w w') ∨
      (detL p d (oneM p xs1 d 1) ≠ 0 ∧ ∃ g rc, e = .returned (.tuple #[.slice (some ⟨g, 0, none⟩) d rc, .bool true]) ∧ OwnR w.heap.size w' (some ⟨g, 0, none⟩) d rc (cayM p xs1 d) ∧ Ext w w') := by
  have hpb := prime_bd hpr
  have HX := Lib.hid hx1
  have HG := Lib.hid hg
  have HPR := Lib.hid hpr
  clear hx1 hg hpr
  go_enter Try.func54, Try.ntmps54
  go_wp2_with (fail)
  have HS0 := Lib.hid ((ext_drew _).cell (show (w.alloc (.cells #[.int .i64 p, .slice a d cap] 30)).cell? ⟨w.heap.size, 0, none⟩ = some (.int .i64 p) by simp))
  have HS1 := Lib.hid ((ext_drew _).cell (show (w.alloc (.cells #[.int .i64 p, .slice a d cap] 30)).cell? ⟨w.heap.size, 1, none⟩ = some (.slice a d cap) by simp))
  have GW := Lib.hid ((ext_alloc w (.cells #[.int .i64 p, .slice a d cap] 30)).trans (ext_drew _))
  refine wp_region_lex [(1, .val (.int .i64 d)), (2, .ownR w.heap.size d (unitL d d)), (4, .val (.int .i64 p))] (by kernel_rfl) (by kernel_rfl) ?_
  (refine LexW.pure (v := ?_) rfl rfl (fun w1 he => ?_) ?_; rotate_left; ( have e1 := he.cell HS0.out; have e2 := he.cell HS1.out; go_simp; rfl); simp only [Act.put, List.setIfInBounds_toArray, List.set_cons_zero, List.set_cons_succ])
  (refine LexW.call (f := ?_) (args := ?_) rfl rfl (fun w1 => ?_) (fun w1 he hdep => ?_) ?_; rotate_left 2; (go_simp; refine ⟨?_, ?_⟩ <;> rfl); ( exact c_dim _ _ _ _ _); simp only [Act.put, List.setIfInBounds_toArray, List.set_cons_zero, List.set_cons_succ])
  (refine LexW.callR (f := ?_) (args := ?_) rfl rfl (fun w1 => ?_) (fun w1 he hdep => ?_) (fun v hv => ?_); rotate_left 2; (go_simp; refine ⟨?_, ?_⟩ <;> rfl); ( refine (c_unit d w1 (by omega)).mono ?_; rintro e w2 ⟨g, rc, rfl, ho, g2⟩; exact ⟨_, rfl, g2, g, rc, rfl, ho.mono (Nat.le_trans GW.out.size he.size)⟩); simp only [Act.put, List.setIfInBounds_toArray, List.set_cons_zero, List.set_cons_succ])
  obtain ⟨_, g12, c12, rfl, _⟩ := hv
  (refine LexW.pure (v := ?_) rfl rfl (fun w1 he => ?_) ?_; rotate_left; ( have e1 := he.cell HS0.out; have e2 := he.cell HS1.out; go_simp; rfl); simp only [Act.put, List.setIfInBounds_toArray, List.set_cons_zero, List.set_cons_succ])
  (refine LexW.call (f := ?_) (args := ?_) rfl rfl (fun w1 => ?_) (fun w1 he hdep => ?_) ?_; rotate_left 2; (go_simp; refine ⟨?_, ?_⟩ <;> rfl); ( exact c_field p _ w1); simp only [Act.put, List.setIfInBounds_toArray, List.set_cons_zero, List.set_cons_succ])
  (refine LexW.pure (v := ?_) rfl rfl (fun w1 he => ?_) ?_; rotate_left; ( have e1 := he.cell HS0.out; have e2 := he.cell HS1.out; go_simp; rfl); simp only [Act.put, List.setIfInBounds_toArray, List.set_cons_zero, List.set_cons_succ])
  (refine LexW.pure (v := ?_) rfl rfl (fun w1 he => ?_) ?_; rotate_left; ( have e1 := he.cell HS0.out; have e2 := he.cell HS1.out; go_simp; rfl); simp only [Act.put, List.setIfInBounds_toArray, List.set_cons_zero, List.set_cons_succ])
  refine LexW.nil (fun w3 he hkn => ?_)
  obtain ⟨_, _, q12, r12⟩ : (SPred.ownR w.heap.size d (unitL d d)).holds (.slice (some ⟨g12, 0, none⟩) d c12) w3 := hkn (2, _) (by simp)
  cases q12
  have R12 := Lib.hid r12
  have HE := Lib.hid (GW.out.trans he)
  clear he hkn r12
  go_wp2_with (fail)
  refine Calls.mono (c_sum p _ _ d d _ _ (unitL d d) xs1 1 _ (by omega) (by omega) (by omega) (by omega) (by omega) R12.out.rd (HX.out.ext HE.out) (unit_good (by omega)) HG.out) ?_
  rintro e w4 ⟨g4, c4, rfl, o4, x4⟩
  have HP1 : Hid (OwnR w.heap.size w4 (some ⟨g4, 0, none⟩) d c4 (oneM p xs1 d 1)) := Lib.hid (o4.mono HE.out.size)
  have HU4 := Lib.hid (R12.out.rd.ext x4)
  have HE4 := Lib.hid (HE.out.trans x4)
  clear o4 x4
  go_wp2_with (fail)
  refine Calls.mono (c_invm p _ d _ (oneM p xs1 d 1) _ HPR.out hd0 (by omega) HP1.out.rd (oneM_good (by omega))) ?_
  intro e w5 h5
  rcases h5 with ⟨hz, rfl, x5⟩ | ⟨hz, g5, c5, rfl, o5, x5⟩
  · have HZ := Lib.hid hz
    clear hz
    go_wp2_with (fail)
    go_ret2
    exact .inl ⟨HZ.out, rfl, HE4.out.trans x5⟩
  · have HZ := Lib.hid hz
    have HI := Lib.hid (inv_one_good HPR.out hd0 hz)
    have HO := Lib.hid o5
    have HU5 := Lib.hid (HU4.out.ext x5)
    have HE5 := Lib.hid (HE4.out.trans x5)
    clear hz o5 x5
    go_wp2_with (fail)
    refine Calls.mono (c_sum p _ _ d d _ _ (unitL d d) xs1 (-1) _ (by omega) (by omega) (by omega) (by omega) (by omega) HU5.out (HX.out.ext HE5.out) (unit_good (by omega)) HG.out) ?_
    rintro e w6 ⟨g6, c6, rfl, o6, x6⟩
    have HM6 : Hid (OwnR w5.heap.size w6 (some ⟨g6, 0, none⟩) d c6 (oneM p xs1 d (-1))) := Lib.hid o6
    have HO6 := Lib.hid (HO.out.rd.ext x6)
    have HE6 := Lib.hid (HE5.out.trans x6)
    clear o6 x6
    go_wp2_with (fail)
    refine Calls.mono (c_mtimes p _ d _ (invM p d (oneM p xs1 d 1)) _ d _ (oneM p xs1 d (-1)) d _ (by omega) (by omega) (by omega) hd0 (by omega) (by omega) HO6.out (fun i hi => HI.out i (by rw [invM_len]; exact hi)) HM6.out.rd (fun i hi => oneM_good (by omega) i (by rw [oneM_len]; exact hi))) ?_
    rintro e w7 ⟨g7, c7, rfl, o7, x7⟩
    have HO7 := Lib.hid ((o7 hd0).mono HE6.out.size)
    have HE7 := Lib.hid (HE6.out.trans x7)
    clear o7 x7
    go_wp2_with (fail)
    go_ret2
    exact .inr ⟨HZ.out, _, _, rfl, HO7.out, HE7.out⟩
end Go.Proofs.Ytnabpmafcflljaa

/-
  Matrices of the reference: the unit matrix and products.
  No condition.
-/
namespace Go.Proofs.Ytnabpmafcflljaa
set_option maxRecDepth 100000
open Go.RowKit

set_option maxHeartbeats 1000000 in
theorem s_unit (n : Nat) (w : World) (hl : n ≤ 1048576) :
    Calls Try.prog 90 #[.int .i64 n] w fun e w' => ∃ g rc, e = .returned (.slice (some ⟨g, 0, none⟩) n rc) ∧ OwnR w.heap.size w' (some ⟨g, 0, none⟩) n rc (unitL n n) ∧ Ext w w' := by
  go_enter Try.func90, Try.ntmps90
  go_wp2_with (fail)
  go_loopw [3, 4] (fun v i wr => ∃ (k g rc : Nat), k ≤ n ∧ i = .int .i64 k ∧ v = .slice (some ⟨g, 0, none⟩) k rc ∧ OwnR w.heap.size wr (some ⟨g, 0, none⟩) k rc (unitL n k) ∧ Ext w wr) (fun _ i _ => n - (intOf i).toNat)
  case atStart => exact ⟨0, _, _, Nat.zero_le _, rfl, rfl, ownR_empty w, ext_alloc _ _⟩
  case round =>
    obtain ⟨k, g, rc, hk, rfl, rfl, hown, hext⟩ := hrel
    have HOwn := Lib.hid hown
    have HExt := Lib.hid hext
    clear hown hext
    by_cases hlt : k < n
    · obtain ⟨w0, hmk, hown0, hext0⟩ := make_ints wr n (by omega)
      obtain ⟨g0, hg0⟩ : ∃ g, g = wr.heap.size := ⟨_, rfl⟩
      rw [← hg0] at hmk hown0
      have hge : wr.heap.size ≤ g0 := by omega
      have HO0 := Lib.hid hown0
      have HE0 := Lib.hid hext0
      have hcg := hown0.cell hlt
      have hfz := hown0.frozen k
      clear hown0 hext0 hg0
      go_wp2_with (at_builtin; refine wpList_pushR (w0 := wr) rfl (.tmp 17) (.tmp 19) rfl rfl rfl HOwn.out ((HE0.out.setCell hge _).trans (ext_alloc _ _)) (xs := bladeL n k) (((HO0.out.store hlt 1).mono hge).ext (ext_alloc _ _)) ?hc (by omega) HExt.out.size ?hk)
      case hc => exact cell_new _ _ (by simp) _ _
      case hk =>
        intro g' cap' w3 ho3 hg3 he3
        have HO3 := Lib.hid ho3
        have HE3 := Lib.hid (he3 w (Nat.le_refl _) ((HExt.out.trans (HE0.out.setCell hge _)).alloc _))
        clear ho3 hg3 he3
        go_wp2_with (fail)
        go_roundw
        case rel => exact ⟨k + 1, g', cap', by omega, by go_num, rfl, by rw [unitL_succ]; exact HO3.out, HE3.out⟩
        case measure => simp [intOf]; omega
    · go_wp2_with (fail)
      go_ret
      obtain rfl : k = n := by omega
      exact ⟨g, rc, rfl, HOwn.out, HExt.out⟩

/-- The sum as the reference makes it. -/
def mS (p : Int) (x : List Int) (b : List (List Int)) (t : Nat) : Nat → Int
  | 0 => 0
  | j + 1 => (mS p x b t j + nth x j * nth (nthR b j) t) % p
theorem mS_bd {p : Int} {x : List Int} {b : List (List Int)} {t : Nat} (hp : 1 ≤ p) : ∀ j, 0 ≤ mS p x b t j ∧ mS p x b t j < p
  | 0 => by unfold mS; omega
  | j + 1 => ⟨Int.emod_nonneg _ (by omega), Int.emod_lt_of_pos _ (by omega)⟩
theorem colL_at {b : List (List Int)} {t m j : Nat} (hj : j < m) : nth (colL b t m) j = nth (nthR b j) t := by
  unfold colL; rw [nth_map (by simpa using hj)]; simp
theorem mS_dot {p : Int} {x : List Int} {b : List (List Int)} {t m : Nat} (hp : 1 ≤ p) : ∀ j, j ≤ m → mS p x b t j = dotS (colL b t m) x j % p
  | 0, _ => by unfold mS dotS; simp
  | j + 1, hj => by
    unfold mS dotS
    rw [mS_dot (m := m) hp j (by omega), colL_at (show j < m by omega), Int.add_emod, Int.emod_emod, ← Int.add_emod, Int.mul_comm]
theorem mS_app {p : Int} {x : List Int} {b : List (List Int)} {t m k : Nat} (hp : 1 ≤ p) (ht : t < k) : mS p x b t m = dotL p (nthR (turnL b m k) t) x m := by
  rw [mS_dot (m := m) hp m (Nat.le_refl _), turnL_nth ht]; rfl

set_option maxHeartbeats 16000000 in
set_option maxRecDepth 100000 in
theorem s_mtimes (p : Int) (a : Option Addr) (n ca : Nat) (ra : List (List Int)) (b : Option Addr) (m cb : Nat) (rb : List (List Int)) (k : Nat) (w : World) (hp1 : 3 ≤ p) (hp2 : p ≤ 1000) (hn : n ≤ 1048576) (hm0 : 0 < m) (hm : m ≤ 1048576) (hk : k ≤ 1048576) (hx : RdR w a n ra) (hga : ∀ i, i < n → Good p m (nthR ra i)) (hy : RdR w b m rb) (hgb : ∀ i, i < m → Good p k (nthR rb i)) :
    Calls Try.prog 93 #[.int .i64 p, .slice a n ca, .slice b m cb] w fun e w' => ∃ g rc, e = .returned (.slice (some ⟨g, 0, none⟩) n rc) ∧ OwnR w.heap.size w' (some ⟨g, 0, none⟩) n rc (mulL p ra rb n m k) ∧ Ext w w' := by
  have hpz : ¬ p = 0 := by omega
  have HX := Lib.hid hx
  have HY := Lib.hid hy
  have HGA := Lib.hid hga
  have HGB := Lib.hid hgb
  obtain ⟨b0, off0, a0, c0, rfl, hc0, _⟩ := hy.2 0 hm0
  rw [(hgb 0 hm0).1, Nat.add_zero] at hc0
  have HC0 := Lib.hid hc0
  clear hx hy hga hgb hc0
  go_enter Try.func93, Try.ntmps93
  go_wp2_with (fail)
  go_loopw [7, 8] (fun v i wr => ∃ (i0 g rc : Nat), i0 ≤ n ∧ i = .int .i64 i0 ∧ v = .slice (some ⟨g, 0, none⟩) i0 rc ∧ Hid (OwnR w.heap.size wr (some ⟨g, 0, none⟩) i0 rc (mulL p ra rb i0 m k)) ∧ Hid (Ext w wr)) (fun _ i _ => n - (intOf i).toNat)
  case atStart => exact ⟨0, _, _, Nat.zero_le _, rfl, rfl, Lib.hid (ownR_empty w), Lib.hid (ext_alloc _ _)⟩
  case round =>
    rename World => y1
    obtain ⟨i, g, rc, hi, rfl, rfl, HO, HE1⟩ := hrel
    by_cases hlt : i < n
    · go_wp2_with (fail)
      go_loopw [9, 10] (fun v t wr => ∃ (t0 g1 rc1 : Nat), t0 ≤ k ∧ t = .int .i64 t0 ∧ v = .slice (some ⟨g1, 0, none⟩) t0 rc1 ∧ Hid (OwnC y1.heap.size wr (some ⟨g1, 0, none⟩) t0 rc1 (appL p (turnL rb m k) (nthR ra i) m t0)) ∧ Hid (Ext y1 wr)) (fun _ t _ => k - (intOf t).toNat)
      case atStart => exact ⟨0, _, _, Nat.zero_le _, rfl, rfl, Lib.hid (own_empty y1), Lib.hid (ext_alloc _ _)⟩
      case round =>
        rename World => y2
        obtain ⟨t, g1, rc1, ht, rfl, rfl, HR, HE2⟩ := hrel
        have hcz := (HE1.out.trans HE2.out).cell HC0.out
        by_cases hlt2 : t < k
        · go_wp2_with (fail)
          clear hcz
          go_loopw [11, 12] (fun s j wr => ∃ (j0 : Nat), j0 ≤ m ∧ j = .int .i64 j0 ∧ s = .int .i64 (mS p (nthR ra i) rb t j0) ∧ Hid (Ext y2 wr)) (fun _ j _ => m - (intOf j).toNat)
          case atStart => exact ⟨0, Nat.zero_le _, rfl, rfl, Lib.hid (Ext.refl _)⟩
          case round =>
            rename World => y3
            obtain ⟨j, hj, rfl, rfl, HE3⟩ := hrel
            by_cases hlt3 : j < m
            · obtain ⟨ba, oa, ai, ci, rfl, hc1, hr1⟩ := HX.out.2 i hlt
              rw [(HGA.out i hlt).1] at hc1 hr1
              obtain ⟨bi, oi, rfl, hv1⟩ := hr1.2 j hlt3
              obtain ⟨bb, ob, bj, dj, hbb, hc2, hr2⟩ := HY.out.2 j hlt3
              cases hbb
              rw [(HGB.out j hlt3).1] at hc2 hr2
              obtain ⟨bk, ok, rfl, hv2⟩ := hr2.2 t hlt2
              have EX := Lib.hid (((HE1.out.trans HE2.out).trans HE3.out).trans (ext_drew y3))
              have HCa := Lib.hid (EX.out.cell hc1)
              have HCb := Lib.hid (EX.out.cell hc2)
              obtain ⟨va, hva⟩ : ∃ x, x = nth (nthR ra i) j := ⟨_, rfl⟩
              obtain ⟨vb, hvb⟩ : ∃ x, x = nth (nthR rb j) t := ⟨_, rfl⟩
              obtain ⟨sm, hsm⟩ : ∃ x, x = mS p (nthR ra i) rb t j := ⟨_, rfl⟩
              have hba : 0 ≤ va ∧ va < p := by rw [hva]; exact (HGA.out i hlt).2 j hlt3
              have hbb : 0 ≤ vb ∧ vb < p := by rw [hvb]; exact (HGB.out j hlt3).2 t hlt2
              have hbs : 0 ≤ sm ∧ sm < p := by rw [hsm]; exact mS_bd (by omega) j
              have hmm := mul_bd (x := va) (y := vb) (p := p) (by omega) hba.1 hba.2 hbb.1 hbb.2
              obtain ⟨pr, hpr⟩ : ∃ x, x = va * vb := ⟨_, rfl⟩
              rw [← hpr] at hmm
              obtain ⟨sp, hsp⟩ : ∃ x, x = sm + pr := ⟨_, rfl⟩
              obtain ⟨sr, hsr⟩ : ∃ x, x = sp % p := ⟨_, rfl⟩
              have HMul := Lib.hid (show IntKind.i64.wrap (va * vb) = pr by rw [← hpr]; exact IntWalk.i64_in _ (by omega))
              have HAdd := Lib.hid (show IntKind.i64.wrap (sm + pr) = sp by rw [hsp]; exact IntWalk.i64_in _ (by omega))
              have HRem := Lib.hid (show sp.tmod p = sr by rw [hsr]; exact Int.tmod_eq_emod_of_nonneg (by omega))
              have HVa := Lib.hid (EX.out.cell hv1)
              have HVb := Lib.hid (EX.out.cell hv2)
              rw [← hva] at HVa
              rw [← hvb] at HVb
              have HSR := Lib.hid (show sr = mS p (nthR ra i) rb t (j + 1) by rw [hsr, hsp, hpr, hsm, hva, hvb]; rfl)
              rw [← hsm]
              clear hc1 hr1 hv1 hc2 hr2 hv2 hva hvb hsm hpr hsp hsr
              go_wp2_with (fail)
              refine wp_region_lex [] (by kernel_rfl) (by kernel_rfl) ?_
              (refine LexW.pure (v := ?_) rfl rfl (fun w1 he => ?_) ?_; rotate_left; ( have e1 := he.cell HCa.out; have e2 := he.cell HCb.out; have e3 := he.cell HVa.out; have e4 := he.cell HVb.out; have e5 := HMul.out; have e6 := HAdd.out; have e7 := HRem.out; go_simp; rfl); simp only [Act.put, List.setIfInBounds_toArray, List.set_cons_zero, List.set_cons_succ])
              (refine LexW.pure (v := ?_) rfl rfl (fun w1 he => ?_) ?_; rotate_left; ( have e1 := he.cell HCa.out; have e2 := he.cell HCb.out; have e3 := he.cell HVa.out; have e4 := he.cell HVb.out; have e5 := HMul.out; have e6 := HAdd.out; have e7 := HRem.out; go_simp; rfl); simp only [Act.put, List.setIfInBounds_toArray, List.set_cons_zero, List.set_cons_succ])
              (refine LexW.pure (v := ?_) rfl rfl (fun w1 he => ?_) ?_; rotate_left; ( have e1 := he.cell HCa.out; have e2 := he.cell HCb.out; have e3 := he.cell HVa.out; have e4 := he.cell HVb.out; have e5 := HMul.out; have e6 := HAdd.out; have e7 := HRem.out; go_simp; rfl); simp only [Act.put, List.setIfInBounds_toArray, List.set_cons_zero, List.set_cons_succ])
              (refine LexW.pure (v := ?_) rfl rfl (fun w1 he => ?_) ?_; rotate_left; ( have e1 := he.cell HCa.out; have e2 := he.cell HCb.out; have e3 := he.cell HVa.out; have e4 := he.cell HVb.out; have e5 := HMul.out; have e6 := HAdd.out; have e7 := HRem.out; go_simp; rfl); simp only [Act.put, List.setIfInBounds_toArray, List.set_cons_zero, List.set_cons_succ])
              (refine LexW.pure (v := ?_) rfl rfl (fun w1 he => ?_) ?_; rotate_left; ( have e1 := he.cell HCa.out; have e2 := he.cell HCb.out; have e3 := he.cell HVa.out; have e4 := he.cell HVb.out; have e5 := HMul.out; have e6 := HAdd.out; have e7 := HRem.out; go_simp; rfl); simp only [Act.put, List.setIfInBounds_toArray, List.set_cons_zero, List.set_cons_succ])
              (refine LexW.pure (v := ?_) rfl rfl (fun w1 he => ?_) ?_; rotate_left; ( have e1 := he.cell HCa.out; have e2 := he.cell HCb.out; have e3 := he.cell HVa.out; have e4 := he.cell HVb.out; have e5 := HMul.out; have e6 := HAdd.out; have e7 := HRem.out; go_simp; rfl); simp only [Act.put, List.setIfInBounds_toArray, List.set_cons_zero, List.set_cons_succ])
              (refine LexW.pure (v := ?_) rfl rfl (fun w1 he => ?_) ?_; rotate_left; ( have e1 := he.cell HCa.out; have e2 := he.cell HCb.out; have e3 := he.cell HVa.out; have e4 := he.cell HVb.out; have e5 := HMul.out; have e6 := HAdd.out; have e7 := HRem.out; go_simp; rfl); simp only [Act.put, List.setIfInBounds_toArray, List.set_cons_zero, List.set_cons_succ])
              (refine LexW.pure (v := ?_) rfl rfl (fun w1 he => ?_) ?_; rotate_left; ( have e1 := he.cell HCa.out; have e2 := he.cell HCb.out; have e3 := he.cell HVa.out; have e4 := he.cell HVb.out; have e5 := HMul.out; have e6 := HAdd.out; have e7 := HRem.out; go_simp; rfl); simp only [Act.put, List.setIfInBounds_toArray, List.set_cons_zero, List.set_cons_succ])
              (refine LexW.pure (v := ?_) rfl rfl (fun w1 he => ?_) ?_; rotate_left; ( have e1 := he.cell HCa.out; have e2 := he.cell HCb.out; have e3 := he.cell HVa.out; have e4 := he.cell HVb.out; have e5 := HMul.out; have e6 := HAdd.out; have e7 := HRem.out; go_simp; rfl); simp only [Act.put, List.setIfInBounds_toArray, List.set_cons_zero, List.set_cons_succ])
              (refine LexW.pure (v := ?_) rfl rfl (fun w1 he => ?_) ?_; rotate_left; ( have e1 := he.cell HCa.out; have e2 := he.cell HCb.out; have e3 := he.cell HVa.out; have e4 := he.cell HVb.out; have e5 := HMul.out; have e6 := HAdd.out; have e7 := HRem.out; go_simp; rfl); simp only [Act.put, List.setIfInBounds_toArray, List.set_cons_zero, List.set_cons_succ])
              (refine LexW.pure (v := ?_) rfl rfl (fun w1 he => ?_) ?_; rotate_left; ( have e1 := he.cell HCa.out; have e2 := he.cell HCb.out; have e3 := he.cell HVa.out; have e4 := he.cell HVb.out; have e5 := HMul.out; have e6 := HAdd.out; have e7 := HRem.out; go_simp; rfl); simp only [Act.put, List.setIfInBounds_toArray, List.set_cons_zero, List.set_cons_succ])
              (refine LexW.pure (v := ?_) rfl rfl (fun w1 he => ?_) ?_; rotate_left; ( have e1 := he.cell HCa.out; have e2 := he.cell HCb.out; have e3 := he.cell HVa.out; have e4 := he.cell HVb.out; have e5 := HMul.out; have e6 := HAdd.out; have e7 := HRem.out; go_simp; rfl); simp only [Act.put, List.setIfInBounds_toArray, List.set_cons_zero, List.set_cons_succ])
              (refine LexW.pure (v := ?_) rfl rfl (fun w1 he => ?_) ?_; rotate_left; ( have e1 := he.cell HCa.out; have e2 := he.cell HCb.out; have e3 := he.cell HVa.out; have e4 := he.cell HVb.out; have e5 := HMul.out; have e6 := HAdd.out; have e7 := HRem.out; go_simp; rfl); simp only [Act.put, List.setIfInBounds_toArray, List.set_cons_zero, List.set_cons_succ])
              (refine LexW.pure (v := ?_) rfl rfl (fun w1 he => ?_) ?_; rotate_left; ( have e1 := he.cell HCa.out; have e2 := he.cell HCb.out; have e3 := he.cell HVa.out; have e4 := he.cell HVb.out; have e5 := HMul.out; have e6 := HAdd.out; have e7 := HRem.out; go_simp; rfl); simp only [Act.put, List.setIfInBounds_toArray, List.set_cons_zero, List.set_cons_succ])
              (refine LexW.pure (v := ?_) rfl rfl (fun w1 he => ?_) ?_; rotate_left; ( have e1 := he.cell HCa.out; have e2 := he.cell HCb.out; have e3 := he.cell HVa.out; have e4 := he.cell HVb.out; have e5 := HMul.out; have e6 := HAdd.out; have e7 := HRem.out; go_simp; rfl); simp only [Act.put, List.setIfInBounds_toArray, List.set_cons_zero, List.set_cons_succ])
              (refine LexW.pure (v := ?_) rfl rfl (fun w1 he => ?_) ?_; rotate_left; ( have e1 := he.cell HCa.out; have e2 := he.cell HCb.out; have e3 := he.cell HVa.out; have e4 := he.cell HVb.out; have e5 := HMul.out; have e6 := HAdd.out; have e7 := HRem.out; go_simp; rfl); simp only [Act.put, List.setIfInBounds_toArray, List.set_cons_zero, List.set_cons_succ])
              (refine LexW.pure (v := ?_) rfl rfl (fun w1 he => ?_) ?_; rotate_left; ( have e1 := he.cell HCa.out; have e2 := he.cell HCb.out; have e3 := he.cell HVa.out; have e4 := he.cell HVb.out; have e5 := HMul.out; have e6 := HAdd.out; have e7 := HRem.out; go_simp; rfl); simp only [Act.put, List.setIfInBounds_toArray, List.set_cons_zero, List.set_cons_succ])
              (refine LexW.pure (v := ?_) rfl rfl (fun w1 he => ?_) ?_; rotate_left; ( have e1 := he.cell HCa.out; have e2 := he.cell HCb.out; have e3 := he.cell HVa.out; have e4 := he.cell HVb.out; have e5 := HMul.out; have e6 := HAdd.out; have e7 := HRem.out; go_simp; rfl); simp only [Act.put, List.setIfInBounds_toArray, List.set_cons_zero, List.set_cons_succ])
              (refine LexW.pure (v := ?_) rfl rfl (fun w1 he => ?_) ?_; rotate_left; ( have e1 := he.cell HCa.out; have e2 := he.cell HCb.out; have e3 := he.cell HVa.out; have e4 := he.cell HVb.out; have e5 := HMul.out; have e6 := HAdd.out; have e7 := HRem.out; go_simp; rfl); simp only [Act.put, List.setIfInBounds_toArray, List.set_cons_zero, List.set_cons_succ])
              (refine LexW.pure (v := ?_) rfl rfl (fun w1 he => ?_) ?_; rotate_left; ( have e1 := he.cell HCa.out; have e2 := he.cell HCb.out; have e3 := he.cell HVa.out; have e4 := he.cell HVb.out; have e5 := HMul.out; have e6 := HAdd.out; have e7 := HRem.out; go_simp; rfl); simp only [Act.put, List.setIfInBounds_toArray, List.set_cons_zero, List.set_cons_succ])
              refine LexW.nil (fun w3 he hkn => ?_)
              have HE := Lib.hid ((ext_drew y3).trans he)
              clear he hkn 
              rename World => y4
              have HE4 := Lib.hid (HE3.out.trans HE.out)
              rw [HSR.out]
              clear HE
              go_wp2_with (fail)
              go_roundw
              case rel => exact ⟨j + 1, by omega, by go_num, rfl, HE4⟩
              case measure => simp [intOf]; omega
            · obtain rfl : j = m := by omega
              have HDT := Lib.hid (mS_app (p := p) (x := nthR ra i) (b := rb) (m := j) (show 1 ≤ p by omega) hlt2)
              obtain ⟨sm, hsm⟩ : ∃ x, x = mS p (nthR ra i) rb t j := ⟨_, rfl⟩
              have HSM := Lib.hid hsm
              rw [← hsm]
              clear hsm
              have HR3 := Lib.hid (HR.out.ext HE3.out)
              go_wp2_with (at_builtin; refine wpList_push rfl (.tmp 54) (.tmp 56) rfl rfl rfl (v := sm) (HR3.out.ext (ext_alloc _ _)) ?hc (by omega) ?hB ?hk)
              case hc => simp
              case hB => have hz := (HE2.out.trans HE3.out).size'; simp; omega
              case hk =>
                intro g' cap' w3 ho3 hg3 he3
                have HO3 := Lib.hid ho3
                have HE5 := Lib.hid (he3 y1 (Nat.le_refl _) ((HE2.out.trans HE3.out).alloc _))
                clear ho3 hg3 he3
                go_wp2_with (fail)
                go_roundw
                case rel => exact ⟨t + 1, g', cap', by omega, by go_num, rfl, Lib.hid (by rw [appL_succ, ← HDT.out, ← HSM.out]; exact HO3.out), HE5⟩
                case measure => simp [intOf]; omega
        · obtain rfl : t = k := by omega
          go_wp2_with (at_builtin; refine wpList_pushR (w0 := y1) rfl (.tmp 58) (.tmp 60) rfl rfl rfl HO.out (HE2.out.trans (ext_alloc _ _)) (HR.out.ext (ext_alloc _ _)) ?hc (by omega) HE1.out.size ?hk)
          case hc => simp
          case hk =>
            intro g' cap' w3 ho3 hg3 he3
            have HO3 := Lib.hid ho3
            have HE3 := Lib.hid (he3 w (Nat.le_refl _) ((HE1.out.trans HE2.out).alloc _))
            clear ho3 hg3 he3
            go_wp2_with (fail)
            go_roundw
            case rel => exact ⟨i + 1, g', cap', by omega, by go_num, rfl, Lib.hid (by rw [mulL_succ]; exact HO3.out), HE3⟩
            case measure => simp [intOf]; omega
    · obtain rfl : i = n := by omega
      go_wp2_with (fail)
      go_ret
      exact ⟨g, rc, rfl, HO.out, HE1.out⟩
end Go.Proofs.Ytnabpmafcflljaa
