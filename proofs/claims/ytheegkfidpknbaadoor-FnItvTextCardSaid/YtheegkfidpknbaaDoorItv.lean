/-
  What the program's and the reference's functions on bounds compute: ItvOk, ItvAll, ItvHas, ItvIn, ItvJoin, ItvMeet and what they call. No conditions.
-/
import Derived.Test.YtheegkfidpknbaaDoorNum
namespace Go.Proofs.YtheegkfidpknbaaDoor
set_option linter.unusedSimpArgs false
set_option linter.unusedVariables false
open Go.ChangeShapes Go.WideShapes Go.ChangeAt Go.RowKit

set_option maxHeartbeats 400000 in
theorem toItv_l (lo hi : Int) (w : World) : Calls Tryd.prog 25 #[.agg #[.int .i64 lo, .int .i64 hi]] w fun e w' => e = .returned (.agg #[.int .i64 lo, .int .i64 hi]) ∧ Below w.heap.size w w' := by
  go_enter Tryd.func25, Tryd.ntmps25
  go_wp2
  go_returns
  exact ⟨rfl, by go_grown⟩
set_option maxHeartbeats 400000 in
theorem itvOk_i (lo hi : Int) (w : World) : Calls Tryd.prog 37 #[.agg #[.int .i64 lo, .int .i64 hi]] w fun e w' => e = .returned (.bool (okI (lo, hi))) ∧ Below w.heap.size w w' := by
  go_enter Tryd.func37, Tryd.ntmps37
  go_wp2_with (go_at_call 33; refine (numOk_i _ _).mono ?_; rintro e w' ⟨rfl, rfl⟩)
  all_goals (go_ret; exact ⟨ret_b (by simp_all [okI]), by go_grown⟩)
set_option maxHeartbeats 400000 in
theorem itvOk_s (lo hi : Int) (w : World) : Calls Tryd.prog 24 #[.agg #[.int .i64 lo, .int .i64 hi]] w fun e w' => e = .returned (.bool (okI (lo, hi))) ∧ Below w.heap.size w w' := by
  go_enter Tryd.func24, Tryd.ntmps24
  go_wp2_with (go_at_call 15; refine (numOk_s _ _).mono ?_; rintro e w' ⟨rfl, rfl⟩)
  all_goals (go_ret; exact ⟨ret_b (by simp_all [okI]), by go_grown⟩)
set_option maxHeartbeats 400000 in
theorem eqItv_l (al ah bl bh : Int) (w : World) : Calls Tryd.prog 19 #[.agg #[.int .i64 al, .int .i64 ah], .agg #[.int .i64 bl, .int .i64 bh]] w fun e w' => e = .returned (.bool (al == bl && ah == bh)) ∧ Below w.heap.size w w' := by
  go_enter Tryd.func19, Tryd.ntmps19
  go_wp2
  all_goals (go_ret; exact ⟨ret_b (by simp_all), by go_grown⟩)

end Go.Proofs.YtheegkfidpknbaaDoor
