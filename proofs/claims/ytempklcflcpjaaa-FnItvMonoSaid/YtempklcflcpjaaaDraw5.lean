/-
  The reference's draws of two bounds: DrawItvIn and those that call it. No conditions.
-/
import Derived.Test.YtempklcflcpjaaaDraw4
namespace Go.Proofs.Ytempklcflcpjaaa
set_option linter.unusedSimpArgs false
set_option linter.unusedVariables false
open Go.ChangeShapes Go.WideShapes Go.ChangeAt Go.RowKit

theorem IsRow.alloc {k : IntKind} {w : World} {a : Option Addr} {len cap : Nat} {z : List Int} (h : IsRow k w a len cap z) (o : Obj) : IsRow k (w.alloc o) a len cap z :=
  h.mono fun p v _ hv => (World.cell?_alloc_lt _ _ _ (World.block_lt_of_cell? w _ hv)).trans hv
/-- What a law's own draw of two bounds leaves. -/
def DrawsI2 (w : World) (e : Ending) (w' : World) : Prop := ∃ x y u v : Int, e = .returned (.tuple #[.agg #[.int .i64 x, .int .i64 y], .agg #[.int .i64 u, .int .i64 v]]) ∧ I64 x ∧ I64 y ∧ I64 u ∧ I64 v ∧ Below w.heap.size w w'
end Go.Proofs.Ytempklcflcpjaaa
