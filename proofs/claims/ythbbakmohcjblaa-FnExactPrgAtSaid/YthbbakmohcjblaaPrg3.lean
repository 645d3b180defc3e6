/-
  Programs in memory, on: the laws' own copying and comparing of instructions. No conditions but those that each theorem says.
-/
import Derived.Test.YthbbakmohcjblaaPrg2
import Derived.Test.YthbbakmohcjblaaAbsOut
namespace Go.Proofs.Ythbbakmohcjblaa
set_option linter.unusedSimpArgs false
set_option linter.unusedVariables false
open Go.ChangeShapes Go.WideShapes Go.ChangeAt Go.RowKit Go.Sort

set_option maxRecDepth 100000 in
set_option maxHeartbeats 4000000 in
theorem eqIns_same (i0 i1 i2 i3 i4 i5 i6 i7 : Int) (w : World) : Calls Try.prog 27 #[.agg #[.int .i64 i0, .int .i64 i1, .int .i64 i2, .int .i64 i3, .int .i64 i4, .int .i64 i5, .int .i64 i6, .int .i64 i7], .agg #[.int .i64 i0, .int .i64 i1, .int .i64 i2, .int .i64 i3, .int .i64 i4, .int .i64 i5, .int .i64 i6, .int .i64 i7]] w fun e w' => e = .returned (.bool true) ∧ Below w.heap.size w w' := by
  go_enter Try.func27, Try.ntmps27
  go_wp2_with fail
  all_goals (go_ret; exact ⟨rfl, by go_grown⟩)
/-- The cell of an instruction's field. -/
def fld (p : Addr) : Nat → Addr
  | 0 => p
  | j + 1 => ⟨p.block, p.off + (j + 1), none⟩
/-- A slice of instructions reads so: field j of instruction i is F i j. -/
def RdC (w : World) (a : Option Addr) (n : Nat) (F : Nat → Nat → Int) : Prop := n = 0 ∨ ∃ x, a = some x ∧ ∀ i, i < n → ∀ j, j < 8 → w.cell? (fld (x.add (i * 8)) j) = some (.int .i64 (F i j))
theorem fld_block (p : Addr) (j : Nat) : (fld p j).block = p.block := by cases j <;> rfl
theorem RdC.below {w w' : World} {a : Option Addr} {n : Nat} {F : Nat → Nat → Int} (h : RdC w a n F) (hb : Below w.heap.size w w') : RdC w' a n F := by
  rcases h with h | ⟨x, rfl, h⟩
  · exact .inl h
  · exact .inr ⟨x, rfl, fun i hi j hj => (hb.cell (World.block_lt_of_cell? w _ (h i hi j hj))).trans (h i hi j hj)⟩
theorem RdC.some {w : World} {a : Option Addr} {n : Nat} {F : Nat → Nat → Int} (h : RdC w a n F) (hl : 0 < n) : ∃ x, a = some x ∧ ∀ i, i < n → ∀ j, j < 8 → w.cell? (fld (x.add (i * 8)) j) = some (.int .i64 (F i j)) := by
  rcases h with h | h
  · omega
  · exact h
set_option maxRecDepth 100000 in
set_option maxHeartbeats 8000000 in
theorem eqInsS_l (a b : Option Addr) (len ca cb : Nat) (F : Nat → Nat → Int) (w : World) (ha : RdC w a len F) (hb : RdC w b len F) (hl : len ≤ 1048576) : Calls Try.prog 67 #[.slice a len ca, .slice b len cb] w fun e w' => e = .returned (.bool true) ∧ Below w.heap.size w w' := by
  have HA := Lib.hid ha
  have HB := Lib.hid hb
  have hlk : (len : Int) ≤ 1048576 := by omega
  clear ha hb
  go_enter Try.func67, Try.ntmps67
  go_wp2_with fail
  go_loopw [5] (fun i wr => ∃ k : Nat, k ≤ len ∧ i = .int .i64 k ∧ Below w.heap.size w wr) (fun i _ => len - (intOf i).toNat)
  case atStart => exact ⟨0, by omega, rfl, Below.refl _ _⟩
  case round =>
    obtain ⟨k, hk, rfl, hS⟩ := hrel
    by_cases hlt : k < len
    · obtain ⟨x, rfl, hx⟩ := HA.out.some (by omega)
      obtain ⟨y, rfl, hy⟩ := HB.out.some (by omega)
      have kx0 := cell_regrown (show w.cell? (x.add (k * 8)) = _ from hx k hlt 0 (by omega))
      have kx1 := cell_regrown (show w.cell? ⟨(x.add (k * 8)).block, (x.add (k * 8)).off + 1, none⟩ = _ from hx k hlt 1 (by omega))
      have kx2 := cell_regrown (show w.cell? ⟨(x.add (k * 8)).block, (x.add (k * 8)).off + 2, none⟩ = _ from hx k hlt 2 (by omega))
      have kx3 := cell_regrown (show w.cell? ⟨(x.add (k * 8)).block, (x.add (k * 8)).off + 3, none⟩ = _ from hx k hlt 3 (by omega))
      have kx4 := cell_regrown (show w.cell? ⟨(x.add (k * 8)).block, (x.add (k * 8)).off + 4, none⟩ = _ from hx k hlt 4 (by omega))
      have kx5 := cell_regrown (show w.cell? ⟨(x.add (k * 8)).block, (x.add (k * 8)).off + 5, none⟩ = _ from hx k hlt 5 (by omega))
      have kx6 := cell_regrown (show w.cell? ⟨(x.add (k * 8)).block, (x.add (k * 8)).off + 6, none⟩ = _ from hx k hlt 6 (by omega))
      have kx7 := cell_regrown (show w.cell? ⟨(x.add (k * 8)).block, (x.add (k * 8)).off + 7, none⟩ = _ from hx k hlt 7 (by omega))
      have ky0 := cell_regrown (show w.cell? (y.add (k * 8)) = _ from hy k hlt 0 (by omega))
      have ky1 := cell_regrown (show w.cell? ⟨(y.add (k * 8)).block, (y.add (k * 8)).off + 1, none⟩ = _ from hy k hlt 1 (by omega))
      have ky2 := cell_regrown (show w.cell? ⟨(y.add (k * 8)).block, (y.add (k * 8)).off + 2, none⟩ = _ from hy k hlt 2 (by omega))
      have ky3 := cell_regrown (show w.cell? ⟨(y.add (k * 8)).block, (y.add (k * 8)).off + 3, none⟩ = _ from hy k hlt 3 (by omega))
      have ky4 := cell_regrown (show w.cell? ⟨(y.add (k * 8)).block, (y.add (k * 8)).off + 4, none⟩ = _ from hy k hlt 4 (by omega))
      have ky5 := cell_regrown (show w.cell? ⟨(y.add (k * 8)).block, (y.add (k * 8)).off + 5, none⟩ = _ from hy k hlt 5 (by omega))
      have ky6 := cell_regrown (show w.cell? ⟨(y.add (k * 8)).block, (y.add (k * 8)).off + 6, none⟩ = _ from hy k hlt 6 (by omega))
      have ky7 := cell_regrown (show w.cell? ⟨(y.add (k * 8)).block, (y.add (k * 8)).off + 7, none⟩ = _ from hy k hlt 7 (by omega))
      have j0 : (0 : Int) ≤ k := by omega
      have j1 : (k : Int) < len := by omega
      clear hx hy
      go_wp2_with fail
      ((refine region_below (W0 := w) mixed_ok (by kernel_rfl) hS ?_); (repeat (go_big_quiet_step ((go_at_call 27; with_reducible exact Calls.regrown_of (eqIns_same _ _ _ _ _ _ _ _ _))))); (refine wpQuiet_nil ?_); (intro _ hq'); (obtain ⟨⟨dq, osq⟩, hq''⟩ := hq'); (subst hq''))
      go_wp2_with fail
      go_roundw
      case rel => exact ⟨k + 1, by omega, by go_num, below_regrown _ _ _⟩
      case measure => simp [intOf] <;> omega
    · go_wp2_with fail
      go_ret
      exact ⟨rfl, hS⟩
end Go.Proofs.Ythbbakmohcjblaa
