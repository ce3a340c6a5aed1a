/-
  The listed function MaskOfName.
  No condition.
-/
import Derived.Test.YtdccileoiiafmaaDoorNames
namespace Go.Proofs.YtdccileoiiafmaaDoor
set_option maxRecDepth 100000
open Go.RowKit

/-- The blade with a name: its mask, or -1. -/
def maskF (s : ByteArray) (d : Nat) : Nat → Bool := fun m => (nameL m d).toList == s.toList
def maskI (s : ByteArray) (d : Nat) : Int := firstIx (maskF s d) (2 ^ d)
def codeMN (p : Int) (qs : List Int) (s : ByteArray) : Int := if spaceB p qs = true then (if 0 ≤ maskI s qs.length then 0 else 6) else 1
theorem codeMN_A {p : Int} {qs : List Int} {s : ByteArray} (h : spaceB p qs = false) : codeMN p qs s = 1 := by unfold codeMN; rw [h]; rfl
theorem codeMN_B {p : Int} {qs : List Int} {s : ByteArray} (h : spaceB p qs = true) : codeMN p qs s = if 0 ≤ maskI s qs.length then 0 else 6 := by unfold codeMN; rw [h]; rfl

set_option maxHeartbeats 4000000 in
theorem c_named (p : Int) (a : Option Addr) (d cap : Nat) (s : ByteArray) (w : World) (hd : d ≤ 6) (V : Int) (B : Bool) (hV : V = if 0 ≤ maskI s d then maskI s d else 0) (hB : B = decide (0 ≤ maskI s d)) :
    Calls Tryd.prog 26 #[.agg #[.int .i64 p, .slice a d cap], .string s] w fun e w' => e = .returned (.tuple #[.int .i64 V, .bool B]) ∧ Ext w w' := by
  have HV := Lib.hid hV
  have HB0 := Lib.hid hB
  clear hV hB
  obtain ⟨M, hM⟩ : ∃ M : Nat, M = 2 ^ d := ⟨_, rfl⟩
  have hM6 : M ≤ 64 := by rw [hM]; exact pow_nat_le hd
  have hw1 : wrap64 (2 ^ d) = (M : Int) := by rw [hM]; exact pow_wrap hd
  have hw2 : IntKind.i64.wrap (2 ^ d) = (M : Int) := by rw [hM]; exact pow_wrapJ hd
  have HM := Lib.hid (show maskI s d = firstIx (maskF s d) M by rw [hM]; rfl)
  clear hM
  go_enter Tryd.func26, Tryd.ntmps26
  go_wp2_with (fail)
  refine Calls.mono (c_dim p a d cap _) ?_
  rintro e w1 ⟨rfl, g1⟩
  have G := Lib.hid ((ext_alloc w (.cells #[.int .i64 p, .slice a d cap] 28)).trans g1)
  have S0 := Lib.hid (show w1.cell? ⟨w.heap.size, 0, none⟩ = some (.int .i64 p) from g1.cell (by simp))
  have S1 := Lib.hid (show w1.cell? ⟨w.heap.size, 1, none⟩ = some (.slice a d cap) from g1.cell (by simp))
  clear g1
  go_wp2_with (fail)
  go_loopw [10] (fun i wr => ∃ (m : Nat), m ≤ M ∧ i = .int .i64 m ∧ Hid (∀ j, j < m → maskF s d j = false) ∧ Hid (Ext w1 wr)) (fun i _ => M - (intOf i).toNat)
  case atStart => exact ⟨0, Nat.zero_le _, rfl, Lib.hid (fun j h => by omega), Lib.hid (Ext.refl _)⟩
  case round =>
    rename World => y
    obtain ⟨m, hm, rfl, HT, HY⟩ := hrel
    have s0 := HY.out.cell S0.out
    have s1 := HY.out.cell S1.out
    by_cases hlt : m < M
    · go_wp2_with (fail)
      refine Calls.mono (c_nameOf p a d cap m _ hd (by omega)) ?_
      rintro e y2 ⟨rfl, g2⟩
      have HY2 := Lib.hid (HY.out.trans g2)
      clear g2 s0 s1
      cases hb : (nameL m d).toList == s.toList
      · have HB := Lib.hid hb
        go_wp2_with (fail)
        clear hb
        go_roundw
        case rel => exact ⟨m + 1, by omega, by go_num, Lib.hid (fun j h => by
          by_cases hj : j = m
          · subst hj; exact HB.out
          · exact HT.out j (by omega)), HY2⟩
        case measure => simp [intOf]; omega
      · have HI := Lib.hid (show maskI s d = m by rw [HM.out]; exact firstIx_hit hlt hb HT.out)
        have he : (nameL m d).toList = s.toList := by simpa using hb
        clear hb
        go_wp2_with (fail)
        go_ret2
        have h0 : (0 : Int) ≤ (m : Int) := by omega
        exact ⟨by rw [HV.out, HB0.out, HI.out, if_pos h0, decide_eq_true h0]; rfl, G.out.trans HY2.out⟩
    · have HI := Lib.hid (show maskI s d = -1 by rw [HM.out]; exact firstIx_none (fun j hj => HT.out j (by omega)))
      clear s0 s1
      go_wp2_with (fail)
      go_ret2
      exact ⟨by rw [HV.out, HB0.out, HI.out]; rfl, G.out.trans HY.out⟩
set_option maxHeartbeats 2000000 in
theorem c_MaskOfName_any (p : Int) (a : Option Addr) (d cap : Nat) (qs : List Int) (s1 : ByteArray) (w : World) (hd : d ≤ 4194304) (hq : RdC w a d qs) (C V : Int) (hC : C = codeMN p qs s1) (hV : V = if codeMN p qs s1 = 0 then maskI s1 d else 0) :
    Calls Tryd.prog 12 #[.agg #[.int .i64 p, .slice a d cap], .string s1] w fun e w' => e = .returned (.tuple #[.int .i64 V, .int .i64 C]) ∧ Ext w w' := by
  have HQ := Lib.hid hq
  have HC := Lib.hid hC
  have HV := Lib.hid hV
  clear hq hC hV
  go_enter Tryd.func12, Tryd.ntmps12
  go_wp2_with (fail)
  refine Calls.mono (c_isSpace p a d cap qs _ hd (HQ.out.ext (ext_alloc _ _))) ?_
  rintro e w1 ⟨rfl, g1⟩
  have G := Lib.hid ((ext_alloc w (.cells #[.int .i64 p, .slice a d cap] 28)).trans g1)
  have s0 : w1.cell? ⟨w.heap.size, 0, none⟩ = some (.int .i64 p) := g1.cell (by simp)
  have s1' : w1.cell? ⟨w.heap.size, 1, none⟩ = some (.slice a d cap) := g1.cell (by simp)
  clear g1
  cases hs : spaceB p qs
  · have H1 := Lib.hid (codeMN_A (s := s1) hs)
    have HC1 := Lib.hid (show C = 1 by rw [HC.out, H1.out])
    have HV1 := Lib.hid (show V = 0 by rw [HV.out, H1.out]; rfl)
    clear hs
    go_wp2_with (fail)
    go_ret2
    exact ⟨by rw [HC1.out, HV1.out]; rfl, G.out⟩
  obtain ⟨_, _, hd6, _⟩ := space_of hs
  rw [HQ.out.1] at hd6
  have H1 := Lib.hid (codeMN_B (s := s1) hs)
  have HD := Lib.hid HQ.out.1
  clear hs
  go_wp2_with (fail)
  obtain ⟨V0, hV0⟩ : ∃ x, x = if 0 ≤ maskI s1 d then maskI s1 d else 0 := ⟨_, rfl⟩
  obtain ⟨B0, hB0⟩ : ∃ x, x = decide (0 ≤ maskI s1 d) := ⟨_, rfl⟩
  refine Calls.mono (c_named p a d cap s1 _ hd6 V0 B0 hV0 hB0) ?_
  rintro e w2 ⟨rfl, g2⟩
  replace G := Lib.hid (G.out.trans g2)
  clear g2 s0 s1'
  by_cases hi : 0 ≤ maskI s1 d
  · have HC1 := Lib.hid (show codeMN p qs s1 = 0 by rw [H1.out, HD.out, if_pos hi])
    have HC2 := Lib.hid (show C = 0 by rw [HC.out, HC1.out])
    have HV2 := Lib.hid (show V = maskI s1 d by rw [HV.out, HC1.out]; rfl)
    obtain rfl : V0 = maskI s1 d := by rw [hV0, if_pos hi]
    obtain rfl : B0 = true := by rw [hB0, decide_eq_true hi]
    clear hi hV0 hB0
    go_wp2_with (fail)
    go_ret2
    exact ⟨by rw [HC2.out, HV2.out]; rfl, G.out⟩
  · have HC1 := Lib.hid (show codeMN p qs s1 = 6 by rw [H1.out, HD.out, if_neg hi])
    have HC2 := Lib.hid (show C = 6 by rw [HC.out, HC1.out])
    have HV2 := Lib.hid (show V = 0 by rw [HV.out, HC1.out]; rfl)
    obtain rfl : V0 = 0 := by rw [hV0, if_neg hi]
    obtain rfl : B0 = false := by rw [hB0, decide_eq_false hi]
    clear hi hV0 hB0
    go_wp2_with (fail)
    go_ret2
    exact ⟨by rw [HC2.out, HV2.out]; rfl, G.out⟩
theorem c_MaskOfName_bad (p : Int) (a : Option Addr) (d cap : Nat) (qs : List Int) (s1 : ByteArray) (w : World) (hd : d ≤ 4194304) (hq : RdC w a d qs) (hc : codeMN p qs s1 ≠ 0) :
    Calls Tryd.prog 12 #[.agg #[.int .i64 p, .slice a d cap], .string s1] w fun e w' => e = .returned (.tuple #[.int .i64 0, .int .i64 (codeMN p qs s1)]) ∧ Ext w w' :=
  c_MaskOfName_any p a d cap qs s1 w hd hq _ _ rfl (by rw [if_neg hc])
theorem c_MaskOfName_ok (p : Int) (a : Option Addr) (d cap : Nat) (qs : List Int) (s1 : ByteArray) (w : World) (hd : d ≤ 4194304) (hq : RdC w a d qs) (hc : codeMN p qs s1 = 0) :
    Calls Tryd.prog 12 #[.agg #[.int .i64 p, .slice a d cap], .string s1] w fun e w' => e = .returned (.tuple #[.int .i64 (maskI s1 d), .int .i64 0]) ∧ Ext w w' :=
  c_MaskOfName_any p a d cap qs s1 w hd hq _ _ hc.symm (by rw [if_pos hc])

set_option maxHeartbeats 4000000 in
theorem s_MaskOfName_any (p : Int) (a : Option Addr) (d cap : Nat) (qs : List Int) (s1 : ByteArray) (w : World) (hd : d ≤ 4194304) (hq : RdC w a d qs) (C V : Int) (hC : C = codeMN p qs s1) (hV : V = if codeMN p qs s1 = 0 then maskI s1 d else 0) :
    Calls Tryd.prog 11 #[.agg #[.int .i64 p, .slice a d cap], .string s1] w fun e w' => e = .returned (.tuple #[.int .i64 V, .int .i64 C]) ∧ Ext w w' := by
  have HQ := Lib.hid hq
  have HC := Lib.hid hC
  have HV := Lib.hid hV
  clear hq hC hV
  go_enter Tryd.func11, Tryd.ntmps11
  go_wp2_with (fail)
  refine Calls.mono (s_is p a d cap qs _ hd (HQ.out.ext (ext_alloc _ _))) ?_
  rintro e w1 ⟨rfl, g1⟩
  have G := Lib.hid ((ext_alloc w (.cells #[.int .i64 p, .slice a d cap] 28)).trans g1)
  have S0 := Lib.hid (show w1.cell? ⟨w.heap.size, 0, none⟩ = some (.int .i64 p) from g1.cell (by simp))
  have S1 := Lib.hid (show w1.cell? ⟨w.heap.size, 1, none⟩ = some (.slice a d cap) from g1.cell (by simp))
  clear g1
  cases hs : spaceB p qs
  · have H1 := Lib.hid (codeMN_A (s := s1) hs)
    have HC1 := Lib.hid (show C = 1 by rw [HC.out, H1.out])
    have HV1 := Lib.hid (show V = 0 by rw [HV.out, H1.out]; rfl)
    clear hs
    go_wp2_with (fail)
    go_ret2
    exact ⟨by rw [HC1.out, HV1.out]; rfl, G.out⟩
  obtain ⟨_, _, hd6, _⟩ := space_of hs
  rw [HQ.out.1] at hd6
  have H1 := Lib.hid (codeMN_B (s := s1) hs)
  have HD := Lib.hid HQ.out.1
  clear hs
  obtain ⟨M, hM⟩ : ∃ M : Nat, M = 2 ^ d := ⟨_, rfl⟩
  have hM6 : M ≤ 64 := by rw [hM]; exact pow_nat_le hd6
  have HP := Lib.hid hM
  have HM := Lib.hid (show maskI s1 d = firstIx (maskF s1 d) M by rw [hM]; rfl)
  clear hM
  go_wp2_with (fail)
  go_loopw [6] (fun i wr => ∃ (m : Nat), m ≤ M ∧ i = .int .i64 m ∧ Hid (∀ j, j < m → maskF s1 d j = false) ∧ Hid (Ext w1 wr)) (fun i _ => M - (intOf i).toNat)
  case atStart => exact ⟨0, Nat.zero_le _, rfl, Lib.hid (fun j h => by omega), Lib.hid (Ext.refl _)⟩
  case round =>
    rename World => y
    obtain ⟨m, hm, rfl, HT, HY⟩ := hrel
    have s0 := HY.out.cell S0.out
    have s1' := HY.out.cell S1.out
    go_wp2_with (fail)
    have HSZ := s_size p a d cap y hd6
    rw [← HP.out] at HSZ
    refine Calls.mono HSZ ?_
    clear HSZ
    rintro e y1 ⟨rfl, g1⟩
    have HY1 := Lib.hid (HY.out.trans g1)
    clear g1 s0 s1'
    by_cases hlt : m < M
    · go_wp2_with (fail)
      refine Calls.mono (s_name m _ (by omega)) ?_
      rintro e y2 ⟨rfl, g2⟩
      have HY2 := Lib.hid (HY1.out.trans g2)
      rw [name_six (d := d) (by rw [← HP.out]; exact hlt) hd6]
      clear g2
      cases hb : (nameL m d).toList == s1.toList
      · have HB := Lib.hid hb
        go_wp2_with (fail)
        clear hb
        go_roundw
        case rel => exact ⟨m + 1, by omega, by go_num, Lib.hid (fun j h => by
          by_cases hj : j = m
          · subst hj; exact HB.out
          · exact HT.out j (by omega)), HY2⟩
        case measure => simp [intOf]; omega
      · have HI := Lib.hid (show maskI s1 d = m by rw [HM.out]; exact firstIx_hit hlt hb HT.out)
        have HC1 := Lib.hid (show codeMN p qs s1 = 0 by rw [H1.out, HD.out, HI.out, if_pos (by omega)])
        have HC2 := Lib.hid (show C = 0 by rw [HC.out, HC1.out])
        have HV2 := Lib.hid (show V = m by rw [HV.out, HC1.out, if_pos rfl, HI.out])
        have he : (nameL m d).toList = s1.toList := by simpa using hb
        clear hb
        go_wp2_with (fail)
        go_ret2
        exact ⟨by rw [HC2.out, HV2.out]; rfl, G.out.trans HY2.out⟩
    · have HI := Lib.hid (show maskI s1 d = -1 by rw [HM.out]; exact firstIx_none (fun j hj => HT.out j (by omega)))
      have HC1 := Lib.hid (show codeMN p qs s1 = 6 by rw [H1.out, HD.out, HI.out, if_neg (by omega)])
      have HC2 := Lib.hid (show C = 6 by rw [HC.out, HC1.out])
      have HV2 := Lib.hid (show V = 0 by rw [HV.out, HC1.out]; rfl)
      go_wp2_with (fail)
      go_ret2
      exact ⟨by rw [HC2.out, HV2.out]; rfl, G.out.trans HY1.out⟩
theorem s_MaskOfName_bad (p : Int) (a : Option Addr) (d cap : Nat) (qs : List Int) (s1 : ByteArray) (w : World) (hd : d ≤ 4194304) (hq : RdC w a d qs) (hc : codeMN p qs s1 ≠ 0) :
    Calls Tryd.prog 11 #[.agg #[.int .i64 p, .slice a d cap], .string s1] w fun e w' => e = .returned (.tuple #[.int .i64 0, .int .i64 (codeMN p qs s1)]) ∧ Ext w w' :=
  s_MaskOfName_any p a d cap qs s1 w hd hq _ _ rfl (by rw [if_neg hc])
theorem s_MaskOfName_ok (p : Int) (a : Option Addr) (d cap : Nat) (qs : List Int) (s1 : ByteArray) (w : World) (hd : d ≤ 4194304) (hq : RdC w a d qs) (hc : codeMN p qs s1 = 0) :
    Calls Tryd.prog 11 #[.agg #[.int .i64 p, .slice a d cap], .string s1] w fun e w' => e = .returned (.tuple #[.int .i64 (maskI s1 d), .int .i64 0]) ∧ Ext w w' :=
  s_MaskOfName_any p a d cap qs s1 w hd hq _ _ hc.symm (by rw [if_pos hc])
end Go.Proofs.YtdccileoiiafmaaDoor
