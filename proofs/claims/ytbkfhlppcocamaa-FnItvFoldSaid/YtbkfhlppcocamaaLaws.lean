/-
  The small functions of the laws themselves: owNorm, owOk. No conditions.
-/
import Derived.Test.YtbkfhlppcocamaaDraw2
namespace Go.Proofs.Ytbkfhlppcocamaa
set_option linter.unusedSimpArgs false
set_option linter.unusedVariables false
open Go.ChangeShapes Go.WideShapes Go.ChangeAt Go.RowKit

set_option maxHeartbeats 400000 in
theorem owNorm_l (n : Int) (w : World) : Calls Try.prog 15 #[.int .i64 n] w fun e w' => e = .returned (.int .i64 (n % 65536)) ∧ w = w' := by
  have hm := tmod_65536 n
  have hb : -65536 < n.tmod 65536 ∧ n.tmod 65536 < 65536 := by omega
  clear hm
  go_enter Try.func15, Try.ntmps15
  go_wp2
  all_goals (go_ret; exact ⟨ret_i (by have hm := tmod_65536 n; omega), rfl⟩)
set_option maxHeartbeats 400000 in
theorem owOk_l (w : World) : Calls Try.prog 23 #[] w fun e w' => e = .returned (.bool true) ∧ w = w' := by
  go_enter Try.func23, Try.ntmps23
  go_wp2_with (go_at_call 14; refine (numOk_i _ _).mono ?_; rintro e w' ⟨rfl, rfl⟩)
  go_ret
  exact ⟨rfl, rfl⟩
end Go.Proofs.Ytbkfhlppcocamaa
