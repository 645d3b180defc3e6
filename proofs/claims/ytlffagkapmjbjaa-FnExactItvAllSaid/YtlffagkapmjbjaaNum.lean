/-
  What the program's and the reference's functions on numbers compute: NumOk, NumWrap, InsRisks, RelHolds. No conditions.
-/
import Derived.Test.YtlffagkapmjbjaaBase
import Derived.Test.YtlffagkapmjbjaaPlain
namespace Go.Proofs.Ytlffagkapmjbjaa
open Go.ChangeShapes Go.WideShapes Go.ChangeAt Go.RowKit

set_option maxHeartbeats 400000 in
theorem numOk_i (n : Int) (w : World) : Calls Try.prog 9 #[.int .i64 n] w fun e w' => e = .returned (.bool (numOk n)) ∧ w = w' := by
  go_enter Try.func9, Try.ntmps9
  go_wp2
  all_goals (go_ret; exact ⟨ret_iff (by simp only [numOk_iff, decide_eq_true_eq, Bool.false_eq_true, false_iff, not_and]; omega), rfl⟩)
set_option maxHeartbeats 400000 in
theorem numOk_s (n : Int) (w : World) : Calls Try.prog 8 #[.int .i64 n] w fun e w' => e = .returned (.bool (numOk n)) ∧ w = w' := by
  go_enter Try.func8, Try.ntmps8
  go_wp2
  all_goals (go_ret; exact ⟨ret_iff (by simp only [numOk_iff, decide_eq_true_eq, Bool.false_eq_true, false_iff, not_and]; omega), rfl⟩)
def risks (n : Int) : Bool := n == 4 || n == 6 || n == 7 || n == 10 || n == 11
set_option maxHeartbeats 400000 in
theorem insRisks_i (n : Int) (w : World) : Calls Try.prog 11 #[.int .i64 n] w fun e w' => e = .returned (.bool (risks n)) ∧ w = w' := by
  go_enter Try.func11, Try.ntmps11
  go_wp2
  all_goals (go_ret; exact ⟨ret_b (by simp_all [risks]), rfl⟩)
set_option maxHeartbeats 400000 in
theorem insRisks_s (n : Int) (w : World) : Calls Try.prog 10 #[.int .i64 n] w fun e w' => e = .returned (.bool (risks n)) ∧ w = w' := by
  go_enter Try.func10, Try.ntmps10
  go_wp2
  all_goals (go_ret; exact ⟨ret_b (by simp_all [risks]), rfl⟩)
theorem wrap16 (n : Int) : wrap64 (IntKind.i16.wrap n) = wrapN n := by
  simp only [IntKind.wrap, IntKind.bits, IntKind.signed, wrap64, wrapN, Bool.true_and, decide_eq_true_eq]
  simp only [show ((2 : Int) ^ 16) = 65536 from rfl, show ((2 : Int) ^ (16 - 1)) = 32768 from rfl]
  by_cases h : n % 65536 ≥ 32768
  · rw [if_pos (by simpa using h)]; omega
  · rw [if_neg (by simpa using h)]; omega
set_option maxHeartbeats 400000 in
theorem numWrap_i (n : Int) (w : World) : Calls Try.prog 13 #[.int .i64 n] w fun e w' => e = .returned (.int .i64 (wrapN n)) ∧ w = w' := by
  go_enter Try.func13, Try.ntmps13
  go_wp2
  go_ret
  exact ⟨ret_i (wrap16 n), rfl⟩
set_option maxHeartbeats 400000 in
theorem numWrap_s (n : Int) (w : World) : Calls Try.prog 12 #[.int .i64 n] w fun e w' => e = .returned (.int .i64 (wrapN n)) ∧ w = w' := by
  have hm := tmod_65536 n
  have hb : -65536 < n.tmod 65536 ∧ n.tmod 65536 < 65536 := by omega
  clear hm
  go_enter Try.func12, Try.ntmps12
  go_wp2
  all_goals (go_ret; exact ⟨ret_i (by have hm := tmod_65536 n; unfold wrapN; omega), rfl⟩)
end Go.Proofs.Ytlffagkapmjbjaa
