/-
  The listed functions BladeName and MaskOfName.
  No condition.
-/
import Derived.Test.YtdccileoiiafmaaDoorName
import Derived.Test.YtdccileoiiafmaaDoorSpecA
namespace Go.Proofs.YtdccileoiiafmaaDoor
set_option maxRecDepth 100000
open Go.RowKit

theorem pow_wrapJ {d : Nat} (h : d ≤ 6) : IntKind.i64.wrap (2 ^ d) = ((2 ^ d : Nat) : Int) := by
  have : ∀ d : Nat, d ≤ 6 → IntKind.i64.wrap (2 ^ d) = ((2 ^ d : Nat) : Int) := by decide +kernel
  exact this d h
theorem pow_nat_le {d : Nat} (hd : d ≤ 6) : 2 ^ d ≤ 64 := by
  have := Nat.pow_le_pow_right (show 1 ≤ 2 by omega) hd
  exact this
def codeBN (p : Int) (qs : List Int) (v : Int) : Int := if spaceB p qs = true then (if inB v 0 ((2 ^ qs.length : Nat) - 1 : Int) = true then 0 else 2) else 1
theorem codeBN_A {p : Int} {qs : List Int} {v : Int} (h : spaceB p qs = false) : codeBN p qs v = 1 := by unfold codeBN; rw [h]; rfl
theorem codeBN_B {p : Int} {qs : List Int} {v : Int} (h : spaceB p qs = true) : codeBN p qs v = if inB v 0 ((2 ^ qs.length : Nat) - 1 : Int) = true then 0 else 2 := by unfold codeBN; rw [h]; rfl
theorem codeBN_zero {p : Int} {qs : List Int} {v : Int} (h : codeBN p qs v = 0) : spaceB p qs = true ∧ inB v 0 ((2 ^ qs.length : Nat) - 1 : Int) = true := by
  unfold codeBN at h
  split at h
  · rename_i h1
    split at h
    · rename_i h2; exact ⟨h1, h2⟩
    · cases h
  · cases h

set_option maxHeartbeats 2000000 in
theorem c_BladeName_any (p : Int) (a : Option Addr) (d cap : Nat) (qs : List Int) (v1 : Int) (w : World) (hd : d ≤ 4194304) (hq : RdC w a d qs) (C : Int) (S : ByteArray) (hC : C = codeBN p qs v1) (hS : S = if codeBN p qs v1 = 0 then nameL v1.toNat d else ByteArray.empty) :
    Calls Tryd.prog 9 #[.agg #[.int .i64 p, .slice a d cap], .int .i64 v1] w fun e w' => e = .returned (.tuple #[.string S, .int .i64 C]) ∧ Ext w w' := by
  have HQ := Lib.hid hq
  have HC := Lib.hid hC
  have HS := Lib.hid hS
  clear hq hC hS
  go_enter Tryd.func9, Tryd.ntmps9
  go_wp2_with (fail)
  refine Calls.mono (c_isSpace p a d cap qs _ hd (HQ.out.ext (ext_alloc _ _))) ?_
  rintro e w1 ⟨rfl, g1⟩
  have G := Lib.hid ((ext_alloc w (.cells #[.int .i64 p, .slice a d cap] 28)).trans g1)
  have s0 : w1.cell? ⟨w.heap.size, 0, none⟩ = some (.int .i64 p) := g1.cell (by simp)
  have s1 : w1.cell? ⟨w.heap.size, 1, none⟩ = some (.slice a d cap) := g1.cell (by simp)
  clear g1
  cases hs : spaceB p qs
  · have H1 := Lib.hid (codeBN_A (v := v1) hs)
    have HC1 := Lib.hid (show C = 1 by rw [HC.out, H1.out])
    have HS1 := Lib.hid (show S = ByteArray.empty by rw [HS.out, H1.out]; rfl)
    clear hs
    go_wp2_with (fail)
    go_ret2
    exact ⟨by rw [HC1.out, HS1.out]; rfl, G.out⟩
  have HSP := Lib.hid hs
  obtain ⟨_, _, hd6, _⟩ := space_of hs
  rw [HQ.out.1] at hd6
  have H1 := Lib.hid (codeBN_B (v := v1) hs)
  have HD := Lib.hid HQ.out.1
  clear hs
  obtain ⟨M, hM⟩ : ∃ M : Nat, M = 2 ^ d := ⟨_, rfl⟩
  have hM6 : M ≤ 64 := by rw [hM]; exact pow_nat_le hd6
  have hw1 : wrap64 (2 ^ d) = (M : Int) := by rw [hM]; exact pow_wrap hd6
  have hw2 : IntKind.i64.wrap (2 ^ d) = (M : Int) := by rw [hM]; exact pow_wrapJ hd6
  have hw3 : wrap64 ((M : Int) - 1) = (M : Int) - 1 := by unfold wrap64; omega
  have HM := Lib.hid hM
  clear hM
  go_wp2_with (fail)
  refine Calls.mono (c_dim p a d cap _) ?_
  rintro e w2 ⟨rfl, g2⟩
  replace s0 := g2.cell s0
  replace s1 := g2.cell s1
  replace G := Lib.hid (G.out.trans g2)
  clear g2
  go_wp2_with (fail)
  refine Calls.mono (c_inRange v1 0 ((M : Int) - 1) _) ?_
  rintro e w3 ⟨rfl, g3⟩
  replace s0 := g3.cell s0
  replace s1 := g3.cell s1
  replace G := Lib.hid (G.out.trans g3)
  clear g3
  cases hi : inB v1 0 ((M : Int) - 1)
  · have HC1 := Lib.hid (show codeBN p qs v1 = 2 by rw [H1.out, HD.out, ← HM.out, hi]; rfl)
    have HC2 := Lib.hid (show C = 2 by rw [HC.out, HC1.out])
    have HS2 := Lib.hid (show S = ByteArray.empty by rw [HS.out, HC1.out]; rfl)
    clear hi
    go_wp2_with (fail)
    go_ret2
    exact ⟨by rw [HC2.out, HS2.out]; rfl, G.out⟩
  · have HC1 := Lib.hid (show codeBN p qs v1 = 0 by rw [H1.out, HD.out, ← HM.out, hi]; rfl)
    have HC2 := Lib.hid (show C = 0 by rw [HC.out, HC1.out])
    have HS2 := Lib.hid (show S = nameL v1.toNat d by rw [HS.out, HC1.out]; rfl)
    have hb : 0 ≤ v1 ∧ v1 ≤ (M : Int) - 1 := by simpa [inB] using hi
    obtain ⟨m, rfl⟩ : ∃ m : Nat, v1 = m := ⟨v1.toNat, by omega⟩
    clear hi
    go_wp2_with (fail)
    refine Calls.mono (c_nameOf p a d cap m _ hd6 (by omega)) ?_
    rintro e w4 ⟨rfl, g4⟩
    replace G := Lib.hid (G.out.trans g4)
    clear g4
    go_wp2_with (fail)
    go_ret2
    exact ⟨by rw [HC2.out, HS2.out]; rfl, G.out⟩
theorem c_BladeName_bad (p : Int) (a : Option Addr) (d cap : Nat) (qs : List Int) (v1 : Int) (w : World) (hd : d ≤ 4194304) (hq : RdC w a d qs) (hc : codeBN p qs v1 ≠ 0) :
    Calls Tryd.prog 9 #[.agg #[.int .i64 p, .slice a d cap], .int .i64 v1] w fun e w' => e = .returned (.tuple #[.string ByteArray.empty, .int .i64 (codeBN p qs v1)]) ∧ Ext w w' :=
  c_BladeName_any p a d cap qs v1 w hd hq _ _ rfl (by rw [if_neg hc])
theorem c_BladeName_ok (p : Int) (a : Option Addr) (d cap : Nat) (qs : List Int) (v1 : Int) (w : World) (hd : d ≤ 4194304) (hq : RdC w a d qs) (hc : codeBN p qs v1 = 0) :
    Calls Tryd.prog 9 #[.agg #[.int .i64 p, .slice a d cap], .int .i64 v1] w fun e w' => e = .returned (.tuple #[.string (nameL v1.toNat d), .int .i64 0]) ∧ Ext w w' :=
  c_BladeName_any p a d cap qs v1 w hd hq _ _ hc.symm (by rw [if_pos hc])

set_option maxHeartbeats 2000000 in
theorem s_BladeName_any (p : Int) (a : Option Addr) (d cap : Nat) (qs : List Int) (v1 : Int) (w : World) (hd : d ≤ 4194304) (hq : RdC w a d qs) (C : Int) (S : ByteArray) (hC : C = codeBN p qs v1) (hS : S = if codeBN p qs v1 = 0 then nameL v1.toNat d else ByteArray.empty) :
    Calls Tryd.prog 7 #[.agg #[.int .i64 p, .slice a d cap], .int .i64 v1] w fun e w' => e = .returned (.tuple #[.string S, .int .i64 C]) ∧ Ext w w' := by
  have HQ := Lib.hid hq
  have HC := Lib.hid hC
  have HS := Lib.hid hS
  clear hq hC hS
  go_enter Tryd.func7, Tryd.ntmps7
  go_wp2_with (fail)
  refine Calls.mono (s_is p a d cap qs _ hd (HQ.out.ext (ext_alloc _ _))) ?_
  rintro e w1 ⟨rfl, g1⟩
  have G := Lib.hid ((ext_alloc w (.cells #[.int .i64 p, .slice a d cap] 28)).trans g1)
  have s0 : w1.cell? ⟨w.heap.size, 0, none⟩ = some (.int .i64 p) := g1.cell (by simp)
  have s1 : w1.cell? ⟨w.heap.size, 1, none⟩ = some (.slice a d cap) := g1.cell (by simp)
  clear g1
  cases hs : spaceB p qs
  · have H1 := Lib.hid (codeBN_A (v := v1) hs)
    have HC1 := Lib.hid (show C = 1 by rw [HC.out, H1.out])
    have HS1 := Lib.hid (show S = ByteArray.empty by rw [HS.out, H1.out]; rfl)
    clear hs
    go_wp2_with (fail)
    go_ret2
    exact ⟨by rw [HC1.out, HS1.out]; rfl, G.out⟩
  have HSP := Lib.hid hs
  obtain ⟨_, _, hd6, _⟩ := space_of hs
  rw [HQ.out.1] at hd6
  have H1 := Lib.hid (codeBN_B (v := v1) hs)
  have HD := Lib.hid HQ.out.1
  clear hs
  obtain ⟨M, hM⟩ : ∃ M : Nat, M = 2 ^ d := ⟨_, rfl⟩
  have hM6 : M ≤ 64 := by rw [hM]; exact pow_nat_le hd6
  have hw3 : wrap64 ((M : Int) - 1) = (M : Int) - 1 := by unfold wrap64; omega
  have HM := Lib.hid hM
  clear hM
  go_wp2_with (fail)
  have HSZ := s_size p a d cap w1 hd6
  rw [← HM.out] at HSZ
  refine Calls.mono HSZ ?_
  clear HSZ
  rintro e w2 ⟨rfl, g2⟩
  replace s0 := g2.cell s0
  replace s1 := g2.cell s1
  replace G := Lib.hid (G.out.trans g2)
  clear g2
  go_wp2_with (fail)
  refine Calls.mono (s_in v1 0 ((M : Int) - 1) _) ?_
  rintro e w3 ⟨rfl, g3⟩
  replace G := Lib.hid (G.out.trans g3)
  clear g3 s0 s1
  cases hi : inB v1 0 ((M : Int) - 1)
  · have HC1 := Lib.hid (show codeBN p qs v1 = 2 by rw [H1.out, HD.out, ← HM.out, hi]; rfl)
    have HC2 := Lib.hid (show C = 2 by rw [HC.out, HC1.out])
    have HS2 := Lib.hid (show S = ByteArray.empty by rw [HS.out, HC1.out]; rfl)
    clear hi
    go_wp2_with (fail)
    go_ret2
    exact ⟨by rw [HC2.out, HS2.out]; rfl, G.out⟩
  · have HC1 := Lib.hid (show codeBN p qs v1 = 0 by rw [H1.out, HD.out, ← HM.out, hi]; rfl)
    have HC2 := Lib.hid (show C = 0 by rw [HC.out, HC1.out])
    have hb : 0 ≤ v1 ∧ v1 ≤ (M : Int) - 1 := by simpa [inB] using hi
    obtain ⟨m, rfl⟩ : ∃ m : Nat, v1 = m := ⟨v1.toNat, by omega⟩
    have HS2 := Lib.hid (show S = nameL m 6 by rw [HS.out, HC1.out, name_six (d := d) (by rw [← HM.out]; omega) hd6]; rfl)
    clear hi
    go_wp2_with (fail)
    refine Calls.mono (s_name m _ (by omega)) ?_
    rintro e w4 ⟨rfl, g4⟩
    replace G := Lib.hid (G.out.trans g4)
    clear g4
    go_wp2_with (fail)
    go_ret2
    exact ⟨by rw [HC2.out, HS2.out]; rfl, G.out⟩
theorem s_BladeName_bad (p : Int) (a : Option Addr) (d cap : Nat) (qs : List Int) (v1 : Int) (w : World) (hd : d ≤ 4194304) (hq : RdC w a d qs) (hc : codeBN p qs v1 ≠ 0) :
    Calls Tryd.prog 7 #[.agg #[.int .i64 p, .slice a d cap], .int .i64 v1] w fun e w' => e = .returned (.tuple #[.string ByteArray.empty, .int .i64 (codeBN p qs v1)]) ∧ Ext w w' :=
  s_BladeName_any p a d cap qs v1 w hd hq _ _ rfl (by rw [if_neg hc])
theorem s_BladeName_ok (p : Int) (a : Option Addr) (d cap : Nat) (qs : List Int) (v1 : Int) (w : World) (hd : d ≤ 4194304) (hq : RdC w a d qs) (hc : codeBN p qs v1 = 0) :
    Calls Tryd.prog 7 #[.agg #[.int .i64 p, .slice a d cap], .int .i64 v1] w fun e w' => e = .returned (.tuple #[.string (nameL v1.toNat d), .int .i64 0]) ∧ Ext w w' :=
  s_BladeName_any p a d cap qs v1 w hd hq _ _ hc.symm (by rw [if_pos hc])
end Go.Proofs.YtdccileoiiafmaaDoor
