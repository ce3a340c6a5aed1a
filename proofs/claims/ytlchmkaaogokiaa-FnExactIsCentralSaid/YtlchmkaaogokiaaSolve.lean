/-
  Contracts: solutions of linear systems, in the program and in the reference.
  No condition.
-/
import Derived.Test.YtlchmkaaogokiaaBasis
import Derived.Test.YtlchmkaaogokiaaBasisS
import Derived.Test.YtlchmkaaogokiaaKill
import Derived.Test.YtlchmkaaogokiaaPlus
import Derived.Test.YtlchmkaaogokiaaFloat
import Derived.Test.YtlchmkaaogokiaaLawR
namespace Go.Proofs.Ytlchmkaaogokiaa
set_option maxRecDepth 100000
open Go.RowKit

theorem OwnR.other {B : Nat} {w : World} {a : Option Addr} {n cap : Nat} {rows : List (List Int)} (h : OwnR B w a n cap rows) {p : Addr} (hp : p.block < B) (v : Value) : OwnR B (w.setCell p v) a n cap rows := by
  obtain ⟨h1, vs, ⟨h2, h3⟩, hap, h4⟩ := h
  refine ⟨h1, vs, ⟨h2, ?_⟩, hap, fun i hi => ?_⟩
  · rcases h3 with h3 | ⟨g, c, cur, hv, hb, hh, h5⟩
    · exact .inl h3
    · exact .inr ⟨g, c, cur, hv, hb, by rw [Below.heap_setCell _ _ _ _ (by omega)]; exact hh, h5⟩
  · obtain ⟨ai, ci, h5, h6⟩ := h4 i hi
    exact ⟨ai, ci, h5, h6.other hp v⟩

/-- The solution and whether there is one. -/
def redL (p : Int) (m : Nat) (rows : List (List Int)) (u : List Int) (n : Nat) : List (List Int) := basisL p (m + 1) (wideL rows u n)
def solR (m : Nat) (red : List (List Int)) : List Int := if okS m red = true then solL m red else []

theorem solL_len' {n : Nat} {red : List (List Int)} : (solL n red).length = n := by simp [solL]


/-- The place of the first number other than 0, or -1. -/
def firstL (xs : List Int) : Int := if leadN xs = xs.length then -1 else (leadN xs : Int)
set_option maxHeartbeats 400000 in
theorem s_first (a : Option Addr) (n cap : Nat) (xs : List Int) (w : World) (hl : n ≤ 4194303) (hx : RdC w a n xs) :
    Calls Try.prog 56 #[.slice a n cap] w fun e w' => e = .returned (.int .i64 (firstL xs)) ∧ Ext w w' := by
  have HX := Lib.hid hx
  clear hx
  go_enter Try.func56, Try.ntmps56
  go_wp2_with (fail)
  go_loopw [3] (fun i wr => ∃ k : Nat, k ≤ n ∧ i = .int .i64 k ∧ Hid (∀ j, j < k → nth xs j = 0) ∧ Ext w wr) (fun i _ => n - (intOf i).toNat)
  case atStart => exact ⟨0, Nat.zero_le _, rfl, Lib.hid (fun j hj => by omega), Ext.refl _⟩
  case round =>
    obtain ⟨k, hk, rfl, HT, hext⟩ := hrel
    by_cases hlt : k < n
    · obtain ⟨b, off, rfl, hc⟩ := HX.out.2 k hlt
      have hc' := hext.cell hc
      clear hc
      by_cases hz : nth xs k = 0
      · have HZ := Lib.hid hz
        have hzb : (nth xs k != 0) = false := by simp [hz]
        clear hz
        go_wp2_with (fail)
        go_roundw
        case rel => exact ⟨k + 1, by omega, by go_num, Lib.hid (fun j hj => by
          by_cases hjk : j = k
          · subst hjk; exact HZ.out
          · exact HT.out j (by omega)), hext⟩
        case measure => simp [intOf]; omega
      · have HZ := Lib.hid hz
        have hzb : (nth xs k != 0) = true := by simp [hz]
        clear hz
        go_wp2_with (fail)
        go_ret
        exact ⟨ret_int (by unfold firstL; rw [leadN_eq (k := k) (by rw [HX.out.1]; omega) HT.out (.inr HZ.out), if_neg (by rw [HX.out.1]; omega)]), hext⟩
    · go_wp2_with (fail)
      go_ret
      exact ⟨ret_int (by unfold firstL; rw [leadN_eq (k := k) (by rw [HX.out.1]; omega) HT.out (.inl (by rw [HX.out.1]; omega)), if_pos (by rw [HX.out.1]; omega)]), hext⟩
theorem OwnRH.otherH {lo hi : Nat} {w : World} {a : Option Addr} {n cap : Nat} {rows : List (List Int)} (h : OwnRH lo hi w a n cap rows) {p : Addr} (hp : p.block < lo ∨ hi ≤ p.block) (v : Value) : OwnRH lo hi (w.setCell p v) a n cap rows := by
  have hb := h.low.base_of
  obtain ⟨h1, h0, vs, ⟨h2, h3⟩, hap, h4⟩ := h
  refine ⟨h1, h0, vs, ⟨h2, ?_⟩, hap, fun i hi => ?_⟩
  · rcases h3 with h3 | ⟨g, c, cur, hv, hb', hh, h5⟩
    · exact .inl h3
    · refine .inr ⟨g, c, cur, hv, hb', ?_, h5⟩
      simp only [Value.slice.injEq] at hv
      have := h0 g hv.1
      rw [Below.heap_setCell _ _ _ _ (by omega)]; exact hh
  · obtain ⟨ai, ci, h5, h6, h7⟩ := h4 i hi
    refine ⟨ai, ci, h5, h6.keep fun g hg => ?_, h7⟩
    have := h7 g hg
    have := (h6.base_of g hg).1
    exact Below.heap_setCell _ _ _ _ (by omega)

end Go.Proofs.Ytlchmkaaogokiaa
