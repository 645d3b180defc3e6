/-
  What the program's and the reference's functions on numbers compute: NumOk, NumWrap, InsRisks, RelHolds. No conditions.
-/
import Derived.Test.YtheegkfidpknbaaDoorBase
import Derived.Test.YtheegkfidpknbaaDoorPlain
namespace Go.Proofs.YtheegkfidpknbaaDoor
set_option linter.unusedSimpArgs false
set_option linter.unusedVariables false
open Go.ChangeShapes Go.WideShapes Go.ChangeAt Go.RowKit

set_option maxHeartbeats 400000 in
theorem numOk_i (n : Int) (w : World) : Calls Tryd.prog 33 #[.int .i64 n] w fun e w' => e = .returned (.bool (numOk n)) ∧ w = w' := by
  go_enter Tryd.func33, Tryd.ntmps33
  go_wp2
  all_goals (go_ret; exact ⟨ret_iff (by simp only [numOk_iff, decide_eq_true_eq, Bool.false_eq_true, false_iff, not_and]; omega), rfl⟩)
set_option maxHeartbeats 400000 in
theorem numOk_s (n : Int) (w : World) : Calls Tryd.prog 15 #[.int .i64 n] w fun e w' => e = .returned (.bool (numOk n)) ∧ w = w' := by
  go_enter Tryd.func15, Tryd.ntmps15
  go_wp2
  all_goals (go_ret; exact ⟨ret_iff (by simp only [numOk_iff, decide_eq_true_eq, Bool.false_eq_true, false_iff, not_and]; omega), rfl⟩)
end Go.Proofs.YtheegkfidpknbaaDoor
