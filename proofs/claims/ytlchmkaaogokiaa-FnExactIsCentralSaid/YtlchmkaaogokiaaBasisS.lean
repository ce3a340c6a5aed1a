/-
  Contract: the reduced basis of rows, in the reference.
  No condition.
-/
import Derived.Test.YtlchmkaaogokiaaRowsC
import Derived.Test.YtlchmkaaogokiaaScale
namespace Go.Proofs.Ytlchmkaaogokiaa
set_option maxRecDepth 100000
open Go.RowKit

end Go.Proofs.Ytlchmkaaogokiaa
