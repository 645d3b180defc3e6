/-
  What the program's and the reference's functions on bounds compute: ItvOk, ItvAll, ItvHas, ItvIn, ItvJoin, ItvMeet and what they call. No conditions.
-/
import Derived.Test.YtlffagkapmjbjaaNum
namespace Go.Proofs.Ytlffagkapmjbjaa
open Go.ChangeShapes Go.WideShapes Go.ChangeAt Go.RowKit

set_option maxHeartbeats 400000 in
theorem itvAll_i (w : World) : Calls Try.prog 15 #[] w fun e w' => e = .returned (.agg #[.int .i64 (-32768), .int .i64 32767]) ∧ Below w.heap.size w w' := by
  go_enter Try.func15, Try.ntmps15
  go_wp2
  go_returns
  exact ⟨rfl, by go_grown⟩
set_option maxHeartbeats 400000 in
theorem itvAll_s (w : World) : Calls Try.prog 14 #[] w fun e w' => e = .returned (.agg #[.int .i64 (-32768), .int .i64 32767]) ∧ Below w.heap.size w w' := by
  go_enter Try.func14, Try.ntmps14
  go_wp2
  go_returns
  exact ⟨rfl, by go_grown⟩
set_option maxHeartbeats 400000 in
theorem eqItv_l (al ah bl bh : Int) (w : World) : Calls Try.prog 16 #[.agg #[.int .i64 al, .int .i64 ah], .agg #[.int .i64 bl, .int .i64 bh]] w fun e w' => e = .returned (.bool (al == bl && ah == bh)) ∧ Below w.heap.size w w' := by
  go_enter Try.func16, Try.ntmps16
  go_wp2
  all_goals (go_ret; exact ⟨ret_b (by simp_all), by go_grown⟩)

end Go.Proofs.Ytlffagkapmjbjaa
