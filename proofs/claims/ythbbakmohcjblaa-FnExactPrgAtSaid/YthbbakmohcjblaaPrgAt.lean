/-
  PrgAt: the reference's, by contract. No conditions but those that each theorem says.
-/
import Derived.Test.YthbbakmohcjblaaPrg8
namespace Go.Proofs.Ythbbakmohcjblaa
set_option linter.unusedSimpArgs false
set_option linter.unusedVariables false
open Go.ChangeShapes Go.WideShapes Go.ChangeAt Go.RowKit Go.Sort

theorem below_x {v n : Int} {x : Bool} (h : (decide (0 ≤ v) && decide (v < n)) = x) (w : World) : Calls Try.prog 48 #[.int .i64 v, .int .i64 n] w fun e w' => e = .returned (.bool x) ∧ w = w' := by
  subst h
  go_enter Try.func48, Try.ntmps48
  go_wp2
  all_goals (go_ret; exact ⟨ret_iff (by simp only [Bool.and_eq_true, decide_eq_true_eq, Bool.false_eq_true, false_iff, not_and]; omega), rfl⟩)
set_option maxRecDepth 100000 in
set_option maxHeartbeats 4000000 in
theorem prgAt_s0 (a : Option Addr) (len cap : Nat) (i k : Int) (w : World) (h : i < 0 ∨ (len : Int) ≤ i ∨ k < 0) : Calls Try.prog 25 #[.agg #[.slice a len cap], .int .i64 i, .int .i64 k] w fun e w' => e = .returned (.tuple #[.agg #[.int .i64 0, .int .i64 0, .int .i64 0, .int .i64 0, .int .i64 0, .int .i64 0, .int .i64 0, .int .i64 0], .bool false]) ∧ Below w.heap.size w w' := by
  by_cases h1 : i < 0
  · clear h
    go_enter Try.func25, Try.ntmps25
    go_wp2_with fail
    all_goals refine bodyPost_ret (by simp [results, Try.results25, go_sem, *]; try rfl) rfl ?_
    all_goals exact ⟨rfl, by go_grown⟩
  · by_cases h2 : (len : Int) ≤ i
    · clear h
      go_enter Try.func25, Try.ntmps25
      go_wp2_with fail
      all_goals refine bodyPost_ret (by simp [results, Try.results25, go_sem, *]; try rfl) rfl ?_
      all_goals exact ⟨rfl, by go_grown⟩
    · have h3 : k < 0 := by omega
      have h4 : i < len := by omega
      clear h
      go_enter Try.func25, Try.ntmps25
      go_wp2_with fail
      all_goals refine bodyPost_ret (by simp [results, Try.results25, go_sem, *]; try rfl) rfl ?_
      all_goals exact ⟨rfl, by go_grown⟩
set_option maxRecDepth 100000 in
set_option maxHeartbeats 4000000 in
theorem prgAt_s1 (G : Nat) (a : Option Addr) (len cap : Nat) (P : Nat → Prc) (F : Nat → Nat → Nat → Int) (i k : Nat) (w : World) (hq : RdQ G w a len P F) (hi : i < len) (hk : (P i).n ≤ k) : Calls Try.prog 25 #[.agg #[.slice a len cap], .int .i64 (i : Int), .int .i64 (k : Int)] w fun e w' => e = .returned (.tuple #[.agg #[.int .i64 0, .int .i64 0, .int .i64 0, .int .i64 0, .int .i64 0, .int .i64 0, .int .i64 0, .int .i64 0], .bool false]) ∧ Below w.heap.size w w' := by
  obtain ⟨x, rfl, hx⟩ := RdQ.some hq (by omega)
  obtain ⟨b, c, e0, e1, e2, hr⟩ := hx i hi
  generalize (P i).n = n at hk e2 hr
  have j0 : (0 : Int) ≤ i := by omega
  have j1 : (i : Int) < len := by omega
  have j2 : (0 : Int) ≤ k := by omega
  have j3 : (n : Int) ≤ k := by omega
  have zb := World.block_lt_of_cell? w _ e0
  clear hx hr hq
  go_enter Try.func25, Try.ntmps25
  go_wp2_with fail
  all_goals refine bodyPost_ret (by simp [results, Try.results25, go_sem, *]; try rfl) rfl ?_
  all_goals exact ⟨rfl, by go_grown⟩
set_option maxRecDepth 100000 in
set_option maxHeartbeats 4000000 in
theorem prgAt_s2 (G : Nat) (a : Option Addr) (len cap : Nat) (P : Nat → Prc) (F : Nat → Nat → Nat → Int) (i k : Nat) (w : World) (hq : RdQ G w a len P F) (hi : i < len) (hk : k < (P i).n) : Calls Try.prog 25 #[.agg #[.slice a len cap], .int .i64 (i : Int), .int .i64 (k : Int)] w fun e w' => e = .returned (.tuple #[.agg #[.int .i64 (F i k 0), .int .i64 (F i k 1), .int .i64 (F i k 2), .int .i64 (F i k 3), .int .i64 (F i k 4), .int .i64 (F i k 5), .int .i64 (F i k 6), .int .i64 (F i k 7)], .bool true]) ∧ Below w.heap.size w w' := by
  obtain ⟨x, rfl, hx⟩ := RdQ.some hq (by omega)
  obtain ⟨b, c, e0, e1, e2, hr⟩ := hx i hi
  generalize (P i).n = n at hk e2 hr
  obtain ⟨y, rfl, hy⟩ := RdC.some hr (by omega)
  have kx0 : w.cell? (y.add (k * 8)) = _ := hy k hk 0 (by omega)
  have kx1 : w.cell? ⟨(y.add (k * 8)).block, (y.add (k * 8)).off + 1, none⟩ = _ := hy k hk 1 (by omega)
  have kx2 : w.cell? ⟨(y.add (k * 8)).block, (y.add (k * 8)).off + 2, none⟩ = _ := hy k hk 2 (by omega)
  have kx3 : w.cell? ⟨(y.add (k * 8)).block, (y.add (k * 8)).off + 3, none⟩ = _ := hy k hk 3 (by omega)
  have kx4 : w.cell? ⟨(y.add (k * 8)).block, (y.add (k * 8)).off + 4, none⟩ = _ := hy k hk 4 (by omega)
  have kx5 : w.cell? ⟨(y.add (k * 8)).block, (y.add (k * 8)).off + 5, none⟩ = _ := hy k hk 5 (by omega)
  have kx6 : w.cell? ⟨(y.add (k * 8)).block, (y.add (k * 8)).off + 6, none⟩ = _ := hy k hk 6 (by omega)
  have kx7 : w.cell? ⟨(y.add (k * 8)).block, (y.add (k * 8)).off + 7, none⟩ = _ := hy k hk 7 (by omega)
  have j0 : (0 : Int) ≤ i := by omega
  have j1 : (i : Int) < len := by omega
  have j2 : (0 : Int) ≤ k := by omega
  have j3 : (k : Int) < n := by omega
  have zb := World.block_lt_of_cell? w _ e0
  have zc := World.block_lt_of_cell? w _ kx0
  clear hx hr hq hy
  go_enter Try.func25, Try.ntmps25
  go_wp2_with fail
  all_goals refine bodyPost_ret (by simp [results, Try.results25, go_sem, *]; try rfl) rfl ?_
  all_goals exact ⟨rfl, by go_grown⟩
end Go.Proofs.Ythbbakmohcjblaa
