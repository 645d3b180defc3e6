/-
  The reference's draws, on: l20Inner. No conditions but bounds on how far the reader has come, and that the bounds are bounds.
-/
import Derived.Test.YtempklcflcpjaaaDraw3
import Derived.Test.YtempklcflcpjaaaPlainLaws
import Derived.IntWalk
namespace Go.Proofs.Ytempklcflcpjaaa
set_option linter.unusedSimpArgs false
set_option linter.unusedVariables false
open Go.ChangeShapes Go.WideShapes Go.ChangeAt Go.RowKit

end Go.Proofs.Ytempklcflcpjaaa
