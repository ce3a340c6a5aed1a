/-
  The square of the pseudoscalar: the listed functions.
  No condition.
-/
import Derived.Test.YtlchmkaaogokiaaPseudo
namespace Go.Proofs.Ytlchmkaaogokiaa
set_option maxRecDepth 100000
open Go.RowKit

def codeS (p : Int) (qs : List Int) : Int := if spaceB p qs = true then 0 else 1
theorem codeS_ok {p : Int} {qs : List Int} (h : codeS p qs = 0) : spaceB p qs = true := by
  unfold codeS at h; split at h
  · assumption
  · omega
theorem codeS_bad {p : Int} {qs : List Int} (h : codeS p qs ≠ 0) : spaceB p qs = false ∧ codeS p qs = 1 := by
  unfold codeS at h ⊢; split at h
  · exact absurd rfl h
  · rename_i hs; exact ⟨by simpa using hs, by simp [hs]⟩



end Go.Proofs.Ytlchmkaaogokiaa
