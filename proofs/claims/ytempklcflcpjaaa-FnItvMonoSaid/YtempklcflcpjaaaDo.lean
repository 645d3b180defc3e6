/-
  What NumDo computes, the program's (through method values in a slice) and the reference's. No conditions but that 'unwrapped' is asked of an operation that can be reckoned.
-/
import Derived.Test.YtempklcflcpjaaaNum
import Derived.Test.YtempklcflcpjaaaPlainLaws
namespace Go.Proofs.Ytempklcflcpjaaa
set_option linter.unusedSimpArgs false
set_option linter.unusedVariables false
open Go.ChangeShapes Go.WideShapes Go.ChangeAt Go.RowKit

/-- The unwrapped result. -/
def rawN (op a b : Int) : Int := if op = 1 then a + b else if op = 2 then a - b else if op = 3 then a * b else a.tdiv b

/-- It is one of the four operations. -/
def arithB (op : Int) : Bool := decide (1 ≤ op) && decide (op ≤ 4)
theorem arithB_iff (op : Int) : arithB op = true ↔ 1 ≤ op ∧ op ≤ 4 := by simp [arithB]
set_option maxHeartbeats 400000 in
theorem isArith_i (op : Int) (w : World) : Calls Try.prog 35 #[.int .i64 op] w fun e w' => e = .returned (.bool (arithB op)) ∧ w = w' := by
  go_enter Try.func35, Try.ntmps35
  go_wp2
  all_goals (go_ret; exact ⟨ret_iff (by simp only [arithB, Bool.and_eq_true, decide_eq_true_eq, Bool.false_eq_true, false_iff, not_and]; omega), rfl⟩)
set_option maxHeartbeats 1000000 in
theorem unwrapped_i (op a b : Int) (w : World) (ha : -32768 ≤ a ∧ a ≤ 32767) (hb : -32768 ≤ b ∧ b ≤ 32767) (hop : op = 1 ∨ op = 2 ∨ op = 3 ∨ op = 4 ∧ ¬ b = 0) :
    Calls Try.prog 37 #[.int .i64 op, .int .i64 a, .int .i64 b] w fun e w' => e = .returned (.int .i64 (rawN op a b)) ∧ Below w.heap.size w w' := by
  have hmf : ∀ (fn : Fn) (first cap : Array Value) (w : World), (Instr.makeFunc fn first cap).run Try.prog w = .ok (.func fn first cap) w := fun _ _ _ _ => rfl
  have hm := mul_bd (u := a) (v := b) (by omega) (by omega)
  have hd := tdiv_bd (u := a) (v := b) (by omega)
  rcases hop with rfl | rfl | rfl | ⟨rfl, h0⟩
  all_goals
    go_enter Try.func37, Try.ntmps37
    go_wp2
    go_ret
    exact ⟨ret_i (by simp [rawN]), by go_grown⟩
theorem ret_nd {op a b n : Int} {x : Bool} (h : numDo op a b = (n, x)) : Ending.returned (.tuple #[.int .i64 n, .bool x]) = .returned (.tuple #[.int .i64 (numDo op a b).1, .bool (numDo op a b).2]) := by rw [h]
theorem numDo_raw {op a b : Int} (ha : numOk a = true) (hb : numOk b = true) (h : op = 1 ∨ op = 2 ∨ op = 3 ∨ op = 4 ∧ ¬ b = 0) : numDo op a b = (wrapN (rawN op a b), true) := by
  rw [numDo_yes ha hb h]; rfl
set_option maxHeartbeats 1000000 in
theorem numDo_i (op a b : Int) (w : World) : Calls Try.prog 11 #[.int .i64 op, .int .i64 a, .int .i64 b] w fun e w' => e = .returned (.tuple #[.int .i64 (numDo op a b).1, .bool (numDo op a b).2]) ∧ Below w.heap.size w w' := by
  by_cases hy : numOk a = true ∧ numOk b = true ∧ (op = 1 ∨ op = 2 ∨ op = 3 ∨ op = 4 ∧ ¬ b = 0)
  · obtain ⟨ha, hb, ho⟩ := hy
    have ka := (numOk_iff a).1 ha
    have kb := (numOk_iff b).1 hb
    have hr := numDo_raw ha hb ho
    have hA : arithB op = true := (arithB_iff op).2 (by omega)
    have Hr := Lib.hid hr
    have hg : (op == 4) = false ∨ (op == 4) = true ∧ (b == 0) = false := by
      rcases ho with rfl | rfl | rfl | ⟨rfl, h⟩
      · exact .inl rfl
      · exact .inl rfl
      · exact .inl rfl
      · exact .inr ⟨rfl, by simpa using h⟩
    have Ho := Lib.hid ho
    clear hr ho
    rcases hg with hg | ⟨hg, hg0⟩
    all_goals
      go_enter Try.func11, Try.ntmps11
      go_wp2_with (first
        | (go_at_call 34; refine (numOk_i _ _).mono ?_; rintro e w' ⟨rfl, rfl⟩)
        | (go_at_call 35; refine (isArith_i _ _).mono ?_; rintro e w' ⟨rfl, rfl⟩)
        | (go_at_call 36; refine (numWrap_i _ _).mono ?_; rintro e w' ⟨rfl, rfl⟩)
        | (go_at_call 37; refine (unwrapped_i _ _ _ _ ka kb Ho.out).mono ?_; rintro e w' ⟨rfl, hB⟩))
      go_ret2
      exact ⟨by rw [Hr.out]; rfl, hB⟩
  · have hr := numDo_no (op := op) (a := a) (b := b) hy
    rw [hr]
    clear hr
    by_cases ha : numOk a = true
    · by_cases hb : numOk b = true
      · by_cases hA : arithB op = true
        · have h4 : op = 4 ∧ b = 0 := by
            have h1 := (arithB_iff op).1 hA
            have h2 : ¬ (op = 1 ∨ op = 2 ∨ op = 3 ∨ op = 4 ∧ ¬ b = 0) := fun h => hy ⟨ha, hb, h⟩
            omega
          obtain ⟨rfl, rfl⟩ := h4
          clear hy
          go_enter Try.func11, Try.ntmps11
          go_wp2_with (first
            | (go_at_call 34; refine (numOk_i _ _).mono ?_; rintro e w' ⟨rfl, rfl⟩)
            | (go_at_call 35; refine (isArith_i _ _).mono ?_; rintro e w' ⟨rfl, rfl⟩))
          go_ret2
          exact ⟨rfl, Below.refl _ _⟩
        · have hA' : arithB op = false := by simpa using hA
          clear hy hA
          go_enter Try.func11, Try.ntmps11
          go_wp2_with (first
            | (go_at_call 34; refine (numOk_i _ _).mono ?_; rintro e w' ⟨rfl, rfl⟩)
            | (go_at_call 35; refine (isArith_i _ _).mono ?_; rintro e w' ⟨rfl, rfl⟩))
          go_ret2
          exact ⟨rfl, Below.refl _ _⟩
      · have hb' : numOk b = false := by simpa using hb
        clear hy hb
        go_enter Try.func11, Try.ntmps11
        go_wp2_with (go_at_call 34; refine (numOk_i _ _).mono ?_; rintro e w' ⟨rfl, rfl⟩)
        go_ret2
        exact ⟨rfl, Below.refl _ _⟩
    · have ha' : numOk a = false := by simpa using ha
      clear hy ha
      go_enter Try.func11, Try.ntmps11
      go_wp2_with (go_at_call 34; refine (numOk_i _ _).mono ?_; rintro e w' ⟨rfl, rfl⟩)
      go_ret2
      exact ⟨rfl, Below.refl _ _⟩
end Go.Proofs.Ytempklcflcpjaaa
