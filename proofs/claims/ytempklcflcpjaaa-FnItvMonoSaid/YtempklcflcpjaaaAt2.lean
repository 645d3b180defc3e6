/-
  The contracts at known results, on: ItvWide, ItvHas, owStep. No conditions but those results.
-/
import Derived.Test.YtempklcflcpjaaaAt
import Derived.Test.YtempklcflcpjaaaWide
import Derived.LoopTactic
namespace Go.Proofs.Ytempklcflcpjaaa
set_option linter.unusedSimpArgs false
set_option linter.unusedVariables false
open Go.ChangeShapes Go.WideShapes Go.ChangeAt Go.RowKit

theorem has_at {al ah n : Int} {x : Bool} (h : hasI (al, ah) n = x) (w : World) : Calls Try.prog 14 #[.agg #[.int .i64 al, .int .i64 ah], .int .i64 n] w fun e w' => e = .returned (.bool x) ∧ Below w.heap.size w w' := by
  have k := itvHas_i al ah n w
  rw [h] at k
  exact k
end Go.Proofs.Ytempklcflcpjaaa
