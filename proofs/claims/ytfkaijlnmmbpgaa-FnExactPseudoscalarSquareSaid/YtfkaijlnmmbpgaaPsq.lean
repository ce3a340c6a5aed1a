/-
  The square of the pseudoscalar: the listed functions.
  No condition.
-/
import Derived.Test.YtfkaijlnmmbpgaaPseudo
namespace Go.Proofs.Ytfkaijlnmmbpgaa
open Go.RowKit

def codeS (p : Int) (qs : List Int) : Int := if spaceB p qs = true then 0 else 1
theorem codeS_ok {p : Int} {qs : List Int} (h : codeS p qs = 0) : spaceB p qs = true := by
  unfold codeS at h; split at h
  · assumption
  · omega
theorem codeS_bad {p : Int} {qs : List Int} (h : codeS p qs ≠ 0) : spaceB p qs = false ∧ codeS p qs = 1 := by
  unfold codeS at h ⊢; split at h
  · exact absurd rfl h
  · rename_i hs; exact ⟨by simpa using hs, by simp [hs]⟩

set_option maxHeartbeats 400000 in
theorem s_PseudoscalarSquare_bad (p : Int) (a : Option Addr) (d cap : Nat) (qs : List Int) (w : World) (hd : d ≤ 4194304) (hq : RdC w a d qs) (hc : codeS p qs ≠ 0) :
    Calls Try.prog 22 #[.agg #[.int .i64 p, .slice a d cap]] w fun e w' => e = .returned (.tuple #[.int .i64 0, .int .i64 (codeS p qs)]) ∧ Ext w w' := by
  obtain ⟨hs, h1⟩ := codeS_bad hc
  rw [h1]
  have HS := Lib.hid hs
  clear hs h1 hc
  go_enter Try.func22, Try.ntmps22
  go_wp2_with (go_at_call 50; refine (s_is _ _ _ _ _ _ hd (hq.ext (ext_alloc _ _))).mono ?_; rintro e w1 ⟨rfl, g1⟩; rw [HS.out])
  go_ret2
  exact ⟨rfl, (ext_alloc _ _).trans g1⟩

set_option maxHeartbeats 400000 in
theorem s_PseudoscalarSquare_ok (p : Int) (a : Option Addr) (d cap : Nat) (qs : List Int) (w : World) (hd : d ≤ 4194304) (hq : RdC w a d qs) (hc : codeS p qs = 0) :
    Calls Try.prog 22 #[.agg #[.int .i64 p, .slice a d cap]] w fun e w' => e = .returned (.tuple #[.int .i64 (sqFull p qs), .int .i64 0]) ∧ Ext w w' := by
  have hs := codeS_ok hc
  obtain ⟨hpr, hd1, hd6, hqb⟩ := space_of hs
  have hpb := prime_bd hpr
  rw [hq.1] at hd6
  have HS := Lib.hid hs
  have HQB := Lib.hid hqb
  clear hs hc hqb hpr hd1
  go_enter Try.func22, Try.ntmps22
  go_wp2_with (go_at_call 50; refine (s_is _ _ _ _ _ _ hd (hq.ext (ext_alloc _ _))).mono ?_; rintro e w1 ⟨rfl, g1⟩; rw [HS.out]; have hq0 : w1.cell? ⟨w.heap.size, 0, none⟩ = some (.int .i64 p) := g1.cell (by simp); have hq1 : w1.cell? ⟨w.heap.size, 1, none⟩ = some (.slice a d cap) := g1.cell (by simp))
  have G1 := Lib.hid ((ext_alloc w (.cells #[.int .i64 p, .slice a d cap] 28)).trans g1)
  clear g1 hq0 hq1
  refine (s_square p a d cap qs w1 (by omega) (by omega) (by omega) (hq.ext G1.out) HQB.out).mono ?_
  rintro e w2 ⟨rfl, g2⟩
  have G2 := Lib.hid g2
  clear g2
  go_wp2_with (fail)
  go_ret2
  exact ⟨rfl, G1.out.trans G2.out⟩

set_option maxHeartbeats 400000 in
theorem c_PseudoscalarSquare_bad (p : Int) (a : Option Addr) (d cap : Nat) (qs : List Int) (w : World) (hd : d ≤ 4194304) (hq : RdC w a d qs) (hc : codeS p qs ≠ 0) :
    Calls Try.prog 23 #[.agg #[.int .i64 p, .slice a d cap]] w fun e w' => e = .returned (.tuple #[.int .i64 0, .int .i64 (codeS p qs)]) ∧ Ext w w' := by
  obtain ⟨hs, h1⟩ := codeS_bad hc
  rw [h1]
  have HS := Lib.hid hs
  clear hs h1 hc
  go_enter Try.func23, Try.ntmps23
  go_wp2_with (go_at_call 52; refine (c_isSpace _ _ _ _ _ _ hd (hq.ext (ext_alloc _ _))).mono ?_; rintro e w1 ⟨rfl, g1⟩; rw [HS.out])
  go_ret2
  exact ⟨rfl, (ext_alloc _ _).trans g1⟩

set_option maxHeartbeats 400000 in
theorem c_PseudoscalarSquare_ok (p : Int) (a : Option Addr) (d cap : Nat) (qs : List Int) (w : World) (hd : d ≤ 4194304) (hq : RdC w a d qs) (hc : codeS p qs = 0) :
    Calls Try.prog 23 #[.agg #[.int .i64 p, .slice a d cap]] w fun e w' => e = .returned (.tuple #[.int .i64 (sqFull p qs), .int .i64 0]) ∧ Ext w w' := by
  have hs := codeS_ok hc
  obtain ⟨hpr, hd1, hd6, hqb⟩ := space_of hs
  have hpb := prime_bd hpr
  rw [hq.1] at hd6
  have HS := Lib.hid hs
  have HQB := Lib.hid hqb
  clear hs hc hqb hpr hd1
  go_enter Try.func23, Try.ntmps23
  go_wp2_with (go_at_call 52; refine (c_isSpace _ _ _ _ _ _ hd (hq.ext (ext_alloc _ _))).mono ?_; rintro e w1 ⟨rfl, g1⟩; rw [HS.out]; have hq0 : w1.cell? ⟨w.heap.size, 0, none⟩ = some (.int .i64 p) := g1.cell (by simp); have hq1 : w1.cell? ⟨w.heap.size, 1, none⟩ = some (.slice a d cap) := g1.cell (by simp))
  have G1 := Lib.hid ((ext_alloc w (.cells #[.int .i64 p, .slice a d cap] 28)).trans g1)
  clear g1 hq0 hq1
  refine (c_fullSquare p a d cap qs w1 (by omega) (by omega) (by omega) (hq.ext G1.out) HQB.out).mono ?_
  rintro e w2 ⟨rfl, g2⟩
  have G2 := Lib.hid g2
  clear g2
  go_wp2_with (fail)
  go_ret2
  exact ⟨rfl, G1.out.trans G2.out⟩

end Go.Proofs.Ytfkaijlnmmbpgaa
