/-
  What the program's and the reference's functions on numbers compute: NumOk, NumWrap, InsRisks, RelHolds. No conditions.
-/
import Derived.Test.YtjipjijlaganmaaBase
import Derived.Test.YtjipjijlaganmaaPlain
namespace Go.Proofs.Ytjipjijlaganmaa
set_option linter.unusedSimpArgs false
set_option linter.unusedVariables false
open Go.ChangeShapes Go.WideShapes Go.ChangeAt Go.RowKit

set_option maxHeartbeats 400000 in
theorem numOk_i (n : Int) (w : World) : Calls Try.prog 19 #[.int .i64 n] w fun e w' => e = .returned (.bool (numOk n)) ∧ w = w' := by
  go_enter Try.func19, Try.ntmps19
  go_wp2
  all_goals (go_ret; exact ⟨ret_iff (by simp only [numOk_iff, decide_eq_true_eq, Bool.false_eq_true, false_iff, not_and]; omega), rfl⟩)
set_option maxHeartbeats 400000 in
theorem numOk_s (n : Int) (w : World) : Calls Try.prog 17 #[.int .i64 n] w fun e w' => e = .returned (.bool (numOk n)) ∧ w = w' := by
  go_enter Try.func17, Try.ntmps17
  go_wp2
  all_goals (go_ret; exact ⟨ret_iff (by simp only [numOk_iff, decide_eq_true_eq, Bool.false_eq_true, false_iff, not_and]; omega), rfl⟩)
theorem wrap16 (n : Int) : wrap64 (IntKind.i16.wrap n) = wrapN n := by
  simp only [IntKind.wrap, IntKind.bits, IntKind.signed, wrap64, wrapN, Bool.true_and, decide_eq_true_eq]
  simp only [show ((2 : Int) ^ 16) = 65536 from rfl, show ((2 : Int) ^ (16 - 1)) = 32768 from rfl]
  by_cases h : n % 65536 ≥ 32768
  · rw [if_pos (by simpa using h)]; omega
  · rw [if_neg (by simpa using h)]; omega
set_option maxHeartbeats 400000 in
theorem numWrap_i (n : Int) (w : World) : Calls Try.prog 21 #[.int .i64 n] w fun e w' => e = .returned (.int .i64 (wrapN n)) ∧ w = w' := by
  go_enter Try.func21, Try.ntmps21
  go_wp2
  go_ret
  exact ⟨ret_i (wrap16 n), rfl⟩
set_option maxHeartbeats 400000 in
theorem numWrap_s (n : Int) (w : World) : Calls Try.prog 18 #[.int .i64 n] w fun e w' => e = .returned (.int .i64 (wrapN n)) ∧ w = w' := by
  have hm := tmod_65536 n
  have hb : -65536 < n.tmod 65536 ∧ n.tmod 65536 < 65536 := by omega
  clear hm
  go_enter Try.func18, Try.ntmps18
  go_wp2
  all_goals (go_ret; exact ⟨ret_i (by have hm := tmod_65536 n; unfold wrapN; omega), rfl⟩)
set_option maxHeartbeats 400000 in
theorem l1In_s (n lo hi : Int) (w : World) : Calls Try.prog 37 #[.int .i64 n, .int .i64 lo, .int .i64 hi] w fun e w' => e = .returned (.bool (decide (lo ≤ n) && decide (n ≤ hi))) ∧ w = w' := by
  go_enter Try.func37, Try.ntmps37
  go_wp2
  all_goals (go_ret; exact ⟨ret_iff (by simp only [Bool.and_eq_true, decide_eq_true_eq, Bool.false_eq_true, false_iff, not_and]; omega), rfl⟩)
end Go.Proofs.Ytjipjijlaganmaa
