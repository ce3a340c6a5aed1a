/-
  Duals; the listed function DualOf.
  No condition.
-/
import Derived.Test.YthimjfnmpicbiaaInv
import Derived.Test.YthimjfnmpicbiaaUndual
namespace Go.Proofs.Ythimjfnmpicbiaa
set_option maxRecDepth 100000
open Go.RowKit





end Go.Proofs.Ythimjfnmpicbiaa
