/-
  What the program's and the reference's functions on numbers compute: NumOk, NumWrap, InsRisks, RelHolds. No conditions.
-/
import Derived.Test.YtdpooiiacdfpkaaBase
import Derived.Test.YtdpooiiacdfpkaaPlain
namespace Go.Proofs.Ytdpooiiacdfpkaa
set_option linter.unusedSimpArgs false
set_option linter.unusedVariables false
open Go.ChangeShapes Go.WideShapes Go.ChangeAt Go.RowKit

set_option maxHeartbeats 400000 in
theorem numOk_i (n : Int) (w : World) : Calls Try.prog 36 #[.int .i64 n] w fun e w' => e = .returned (.bool (numOk n)) ∧ w = w' := by
  go_enter Try.func36, Try.ntmps36
  go_wp2
  all_goals (go_ret; exact ⟨ret_iff (by simp only [numOk_iff, decide_eq_true_eq, Bool.false_eq_true, false_iff, not_and]; omega), rfl⟩)
set_option maxHeartbeats 400000 in
theorem numOk_s (n : Int) (w : World) : Calls Try.prog 58 #[.int .i64 n] w fun e w' => e = .returned (.bool (numOk n)) ∧ w = w' := by
  go_enter Try.func58, Try.ntmps58
  go_wp2
  all_goals (go_ret; exact ⟨ret_iff (by simp only [numOk_iff, decide_eq_true_eq, Bool.false_eq_true, false_iff, not_and]; omega), rfl⟩)
set_option maxHeartbeats 400000 in
theorem l1In_s (n lo hi : Int) (w : World) : Calls Try.prog 33 #[.int .i64 n, .int .i64 lo, .int .i64 hi] w fun e w' => e = .returned (.bool (decide (lo ≤ n) && decide (n ≤ hi))) ∧ w = w' := by
  go_enter Try.func33, Try.ntmps33
  go_wp2
  all_goals (go_ret; exact ⟨ret_iff (by simp only [Bool.and_eq_true, decide_eq_true_eq, Bool.false_eq_true, false_iff, not_and]; omega), rfl⟩)
end Go.Proofs.Ytdpooiiacdfpkaa
