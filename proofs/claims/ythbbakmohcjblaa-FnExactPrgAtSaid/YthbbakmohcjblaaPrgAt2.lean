/-
  PrgAt: the program's, by contract. No conditions but those that each theorem says.
-/
import Derived.Test.YthbbakmohcjblaaPrgAt
namespace Go.Proofs.Ythbbakmohcjblaa
set_option linter.unusedSimpArgs false
set_option linter.unusedVariables false
open Go.ChangeShapes Go.WideShapes Go.ChangeAt Go.RowKit Go.Sort

set_option maxRecDepth 100000 in
set_option maxHeartbeats 4000000 in
theorem proc_no (a : Option Addr) (len cap : Nat) (i : Int) (w : World) (h : (decide (0 ≤ i) && decide (i < (len : Int))) = false) : Calls Try.prog 47 #[.agg #[.slice a len cap], .int .i64 i] w fun e w' => e = .returned (.tuple #[.agg #[.int .i64 0, .int .i64 0, .slice none 0 0], .bool false]) ∧ Below w.heap.size w w' := by
  have H := Lib.hid h
  clear h
  go_enter Try.func47, Try.ntmps47
  go_wp2_with (go_at_call 48; refine (below_x H.out _).mono ?_; rintro e w' ⟨rfl, rfl⟩)
  all_goals refine bodyPost_ret (by simp [results, Try.results47, go_sem, *]; try rfl) rfl ?_
  all_goals exact ⟨rfl, by go_grown⟩
set_option maxRecDepth 100000 in
set_option maxHeartbeats 4000000 in
theorem proc_yes (x : Addr) (len cap i : Nat) (lo hi : Int) (b : Option Addr) (n c : Nat) (w : World) (hi' : i < len) (e0 : w.cell? (x.add (i * 3)) = Option.some (.int .i64 lo)) (e1 : w.cell? ⟨(x.add (i * 3)).block, (x.add (i * 3)).off + 1, none⟩ = Option.some (.int .i64 hi)) (e2 : w.cell? ⟨(x.add (i * 3)).block, (x.add (i * 3)).off + 2, none⟩ = Option.some (.slice b n c)) : Calls Try.prog 47 #[.agg #[.slice (Option.some x) len cap], .int .i64 (i : Int)] w fun e w' => e = .returned (.tuple #[.agg #[.int .i64 lo, .int .i64 hi, .slice b n c], .bool true]) ∧ Below w.heap.size w w' := by
  have H := Lib.hid (show (decide (0 ≤ (i : Int)) && decide ((i : Int) < (len : Int))) = true by simp; omega)
  have j0 : (0 : Int) ≤ i := by omega
  have j1 : (i : Int) < len := by omega
  have zb := World.block_lt_of_cell? w _ e0
  go_enter Try.func47, Try.ntmps47
  go_wp2_with (go_at_call 48; refine (below_x H.out _).mono ?_; rintro e w' ⟨rfl, rfl⟩)
  all_goals refine bodyPost_ret (by simp [results, Try.results47, go_sem, *]; try rfl) rfl ?_
  all_goals exact ⟨rfl, by go_grown⟩
end Go.Proofs.Ythbbakmohcjblaa
