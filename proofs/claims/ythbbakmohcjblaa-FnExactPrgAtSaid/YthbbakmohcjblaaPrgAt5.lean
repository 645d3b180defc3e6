/-
  PrgAt: the program's, on (5). No conditions but those that each theorem says.
-/
import Derived.Test.YthbbakmohcjblaaPrgAt2
import Derived.Test.YthbbakmohcjblaaInv
namespace Go.Proofs.Ythbbakmohcjblaa
set_option linter.unusedSimpArgs false
set_option linter.unusedVariables false
open Go.ChangeShapes Go.WideShapes Go.ChangeAt Go.RowKit Go.Sort

set_option maxRecDepth 100000 in
set_option maxHeartbeats 16000000 in
theorem prgAt_i2 (G : Nat) (a : Option Addr) (len cap : Nat) (P : Nat → Prc) (F : Nat → Nat → Nat → Int) (i k : Nat) (w : World) (hq : RdQ G w a len P F) (hi : i < len) (hk : k < (P i).n) : Calls Try.prog 26 #[.agg #[.slice a len cap], .int .i64 (i : Int), .int .i64 (k : Int)] w fun e w' => e = .returned (.tuple #[.agg #[.int .i64 (F i k 0), .int .i64 (F i k 1), .int .i64 (F i k 2), .int .i64 (F i k 3), .int .i64 (F i k 4), .int .i64 (F i k 5), .int .i64 (F i k 6), .int .i64 (F i k 7)], .bool true]) ∧ Below w.heap.size w w' := by
  obtain ⟨x, rfl, hx⟩ := RdQ.some hq (by omega)
  obtain ⟨b, c, e0, e1, e2, hr⟩ := hx i hi
  generalize (P i).n = n at hk e2 hr
  obtain ⟨y, rfl, hy⟩ := RdC.some hr (by omega)
  have K0 := Lib.hid (show w.cell? (y.add (k * 8)) = _ from hy k hk 0 (by omega))
  have K1 := Lib.hid (show w.cell? ⟨(y.add (k * 8)).block, (y.add (k * 8)).off + 1, none⟩ = _ from hy k hk 1 (by omega))
  have K2 := Lib.hid (show w.cell? ⟨(y.add (k * 8)).block, (y.add (k * 8)).off + 2, none⟩ = _ from hy k hk 2 (by omega))
  have K3 := Lib.hid (show w.cell? ⟨(y.add (k * 8)).block, (y.add (k * 8)).off + 3, none⟩ = _ from hy k hk 3 (by omega))
  have K4 := Lib.hid (show w.cell? ⟨(y.add (k * 8)).block, (y.add (k * 8)).off + 4, none⟩ = _ from hy k hk 4 (by omega))
  have K5 := Lib.hid (show w.cell? ⟨(y.add (k * 8)).block, (y.add (k * 8)).off + 5, none⟩ = _ from hy k hk 5 (by omega))
  have K6 := Lib.hid (show w.cell? ⟨(y.add (k * 8)).block, (y.add (k * 8)).off + 6, none⟩ = _ from hy k hk 6 (by omega))
  have K7 := Lib.hid (show w.cell? ⟨(y.add (k * 8)).block, (y.add (k * 8)).off + 7, none⟩ = _ from hy k hk 7 (by omega))
  obtain ⟨lo, hlo⟩ : ∃ lo, lo = (P i).lo := ⟨_, rfl⟩
  obtain ⟨up, hup⟩ : ∃ up, up = (P i).hi := ⟨_, rfl⟩
  rw [← hlo] at e0
  rw [← hup] at e1
  clear hlo hup
  have E0 := Lib.hid e0
  have E1 := Lib.hid e1
  have E2 := Lib.hid e2
  have H := Lib.hid (show (decide (0 ≤ (k : Int)) && decide ((k : Int) < (n : Int))) = true by simp; omega)
  have j2 : (0 : Int) ≤ k := by omega
  have j3 : (k : Int) < n := by omega
  clear hx hr hq e0 e1 e2 hy
  go_enter Try.func26, Try.ntmps26
  go_upto_region 1 with fail
  go_cut [8, 9] (fun p ok wx => ∃ W, W = wx ∧ ∃ g, w.heap.size + 1 < g ∧ g < wx.heap.size ∧ p = .pointer (Option.some ⟨g, 0, none⟩) ∧ ok = .bool true ∧ Blk wx (w.heap.size + 1) 42 #[.int .i64 0, .int .i64 0, .int .i64 0, .int .i64 0, .int .i64 0, .int .i64 0, .int .i64 0, .int .i64 0] ∧ Blk wx g 84 #[.int .i64 lo, .int .i64 up, .slice (Option.some y) n c] ∧ Below w.heap.size w wx)
  case first =>
    go_wp2_with (go_at_call 47; refine (proc_yes x len cap i lo up (Option.some y) n c _ hi ((((Below.refl w.heap.size w).alloc (Nat.le_refl _) _).alloc (by simp only [World.size_alloc]; omega) _).cell (World.block_lt_of_cell? w _ E0.out) |>.trans E0.out) ((((Below.refl w.heap.size w).alloc (Nat.le_refl _) _).alloc (by simp only [World.size_alloc]; omega) _).cell (World.block_lt_of_cell? w _ E1.out) |>.trans E1.out) ((((Below.refl w.heap.size w).alloc (Nat.le_refl _) _).alloc (by simp only [World.size_alloc]; omega) _).cell (World.block_lt_of_cell? w _ E2.out) |>.trans E2.out)).mono ?_; rintro e w1 ⟨rfl, hb⟩; have hz : w.heap.size + 1 < w1.heap.size := (by have := hb.size; simp only [World.size_alloc] at this; omega); have hS : Below w.heap.size w w1 := below_on (((Below.refl w.heap.size w).alloc (Nat.le_refl _) _).alloc (by simp only [World.size_alloc]; omega) _) hb; have hk : Blk w1 (w.heap.size + 1) 42 #[.int .i64 0, .int .i64 0, .int .i64 0, .int .i64 0, .int .i64 0, .int .i64 0, .int .i64 0, .int .i64 0] := (by have h0 := Blk.below (Blk.new _ _ _) hb; simpa only [World.size_alloc] using h0); clear hb)
    go_meet
    exact ⟨_, rfl, _, hz, by simp [go_sem], rfl, rfl, hk.alloc _, Blk.new _ _ _, by go_grown⟩
  case rest =>
  obtain ⟨W, rfl, g, hg1, hg2, rfl, rfl, hk, hg, hB⟩ := hcut
  have q0 := hk.cell 0; have q1 := hk.cell 1; have q2 := hk.cell 2; have q3 := hk.cell 3; have q4 := hk.cell 4; have q5 := hk.cell 5; have q6 := hk.cell 6; have q7 := hk.cell 7
  have f0 := hk.frozen 0; have f1 := hk.frozen 1; have f2 := hk.frozen 2; have f3 := hk.frozen 3; have f4 := hk.frozen 4; have f5 := hk.frozen 5; have f6 := hk.frozen 6; have f7 := hk.frozen 7
  simp only [List.getElem?_toArray, List.getElem?_cons_zero, List.getElem?_cons_succ] at q0 q1 q2 q3 q4 q5 q6 q7
  clear hk
  have qg := hg.cell 2
  simp only [List.getElem?_toArray, List.getElem?_cons_zero, List.getElem?_cons_succ] at qg
  clear hg
  have k0 := (hB.cell (World.block_lt_of_cell? w _ K0.out)).trans K0.out
  have k1 := (hB.cell (World.block_lt_of_cell? w _ K1.out)).trans K1.out
  have k2 := (hB.cell (World.block_lt_of_cell? w _ K2.out)).trans K2.out
  have k3 := (hB.cell (World.block_lt_of_cell? w _ K3.out)).trans K3.out
  have k4 := (hB.cell (World.block_lt_of_cell? w _ K4.out)).trans K4.out
  have k5 := (hB.cell (World.block_lt_of_cell? w _ K5.out)).trans K5.out
  have k6 := (hB.cell (World.block_lt_of_cell? w _ K6.out)).trans K6.out
  have k7 := (hB.cell (World.block_lt_of_cell? w _ K7.out)).trans K7.out
  have zc := World.block_lt_of_cell? _ _ k0
  have zd := World.block_lt_of_cell? w _ K0.out
  have ze : ¬ (y.add (k * 8)).block = w.heap.size + 1 := (by omega)
  clear K0 K1 K2 K3 K4 K5 K6 K7
  go_wp2_with (go_at_call 48; refine (below_x H.out _).mono ?_; rintro e w2 ⟨rfl, rfl⟩)
  all_goals refine bodyPost_ret (by simp [results, Try.results26, go_sem, *]; try rfl) rfl ?_
  all_goals exact ⟨rfl, by go_grown⟩
end Go.Proofs.Ythbbakmohcjblaa
