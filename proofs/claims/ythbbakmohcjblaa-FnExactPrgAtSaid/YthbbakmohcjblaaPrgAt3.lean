/-
  PrgAt: the program's, on (3). No conditions but those that each theorem says.
-/
import Derived.Test.YthbbakmohcjblaaPrgAt2
import Derived.Test.YthbbakmohcjblaaInv
namespace Go.Proofs.Ythbbakmohcjblaa
set_option linter.unusedSimpArgs false
set_option linter.unusedVariables false
open Go.ChangeShapes Go.WideShapes Go.ChangeAt Go.RowKit Go.Sort

set_option maxRecDepth 100000 in
set_option maxHeartbeats 16000000 in
theorem prgAt_i0 (a : Option Addr) (len cap : Nat) (i k : Int) (w : World) (h : (decide (0 ≤ i) && decide (i < (len : Int))) = false) : Calls Try.prog 26 #[.agg #[.slice a len cap], .int .i64 i, .int .i64 k] w fun e w' => e = .returned (.tuple #[.agg #[.int .i64 0, .int .i64 0, .int .i64 0, .int .i64 0, .int .i64 0, .int .i64 0, .int .i64 0, .int .i64 0], .bool false]) ∧ Below w.heap.size w w' := by
  have H := Lib.hid h
  clear h
  go_enter Try.func26, Try.ntmps26
  go_upto_region 1 with fail
  go_cut [8, 9] (fun p ok wx => ∃ W, W = wx ∧ ∃ g, w.heap.size + 1 < g ∧ g < wx.heap.size ∧ p = .pointer (Option.some ⟨g, 0, none⟩) ∧ ok = .bool false ∧ Blk wx (w.heap.size + 1) 42 #[.int .i64 0, .int .i64 0, .int .i64 0, .int .i64 0, .int .i64 0, .int .i64 0, .int .i64 0, .int .i64 0] ∧ Below w.heap.size w wx)
  case first =>
    go_wp2_with (go_at_call 47; refine (proc_no _ _ _ _ _ H.out).mono ?_; rintro e w1 ⟨rfl, hb⟩; have hz : w.heap.size + 1 < w1.heap.size := (by have := hb.size; simp only [World.size_alloc] at this; omega); have hS : Below w.heap.size w w1 := below_on (((Below.refl w.heap.size w).alloc (Nat.le_refl _) _).alloc (by simp only [World.size_alloc]; omega) _) hb; have hk : Blk w1 (w.heap.size + 1) 42 #[.int .i64 0, .int .i64 0, .int .i64 0, .int .i64 0, .int .i64 0, .int .i64 0, .int .i64 0, .int .i64 0] := (by have h0 := Blk.below (Blk.new _ _ _) hb; simpa only [World.size_alloc] using h0); clear hb)
    go_meet
    exact ⟨_, rfl, _, hz, by simp [go_sem], rfl, rfl, hk.alloc _, by go_grown⟩
  case rest =>
  obtain ⟨W, rfl, g, hg1, hg2, rfl, rfl, hk, hB⟩ := hcut
  have q0 := hk.cell 0; have q1 := hk.cell 1; have q2 := hk.cell 2; have q3 := hk.cell 3; have q4 := hk.cell 4; have q5 := hk.cell 5; have q6 := hk.cell 6; have q7 := hk.cell 7
  have f0 := hk.frozen 0; have f1 := hk.frozen 1; have f2 := hk.frozen 2; have f3 := hk.frozen 3; have f4 := hk.frozen 4; have f5 := hk.frozen 5; have f6 := hk.frozen 6; have f7 := hk.frozen 7
  simp only [List.getElem?_toArray, List.getElem?_cons_zero, List.getElem?_cons_succ] at q0 q1 q2 q3 q4 q5 q6 q7
  clear hk
  go_wp2_with fail
  all_goals refine bodyPost_ret (by simp [results, Try.results26, go_sem, *]; try rfl) rfl ?_
  all_goals exact ⟨rfl, by go_grown⟩
end Go.Proofs.Ythbbakmohcjblaa
