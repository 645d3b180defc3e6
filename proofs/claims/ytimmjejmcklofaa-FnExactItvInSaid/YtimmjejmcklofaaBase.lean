/-
  What all walks of this seat share: closed facts of the program, a row of integers that came in, small laws on worlds. No conditions.
-/
import Derived.Test.YtimmjejmcklofaaRows
import Derived.WalkKit
import Derived.WalkSpells
import Derived.WalkLawsBesides
import Derived.ProofKit
import Derived.OpenShut
import Derived.ShutString
import Derived.ChangeOld
import Derived.Below
import Derived.Lib.Hide
import Derived.Lib.SmallJoins
import Derived.Handy
import Derived.BigQuiet
import Derived.Deep.RegionHeld3
import Derived.Deep.DeepCutAuto
import Derived.Deep.QuietTactic
namespace Go.Proofs.Ytimmjejmcklofaa
open Go.ChangeShapes Go.WideShapes Go.ChangeAt Go.RowKit

theorem own : ownKnob Try.prog.godebug = none := by kernel_rfl
theorem laidOut : laidOutB Try.prog = true := by kernel_rfl

/-- A slice of integers that came in: it is nil; or it leads to a row of 'cap' cells, the numbers 'zs' (the first 'len' are its elements), each fitting its kind. -/
def IsRow (k : IntKind) (w : World) (a : Option Addr) (len cap : Nat) (zs : List Int) : Prop :=
  (a = none ∧ len = 0 ∧ cap = 0 ∧ zs = []) ∨
  ∃ x, a = some x ∧ len ≤ cap ∧ cap ≤ maxLen ∧ zs.length = cap ∧ (∀ i, i < zs.length → w.cell? (x.add i) = some (.int k (zs.getD i 0))) ∧ ∀ n ∈ zs, (Lit.int k n).wf = true

/-- Behind a call that kept all that was there: the old cells and marks read as before. -/
theorem bcell {W w1 : World} (hb : Below W.heap.size W w1) : (∀ b o, b < W.heap.size → w1.cell? ⟨b, o, none⟩ = W.cell? ⟨b, o, none⟩) ∧ (∀ b o, b < W.heap.size → w1.frozen? ⟨b, o, none⟩ = W.frozen? ⟨b, o, none⟩) :=
  ⟨fun b o h => hb.cell (p := ⟨b, o, none⟩) h, fun b o h => hb.frozen (p := ⟨b, o, none⟩) h⟩

/-- One step more: what the next callee kept on top of what was kept so far. -/
theorem below_on {w W w1 : World} (h : Below w.heap.size w W) (hb : Below W.heap.size W w1) : Below w.heap.size w w1 := h.trans (hb.mono h.size)

/-! What a region that draws its order keeps: behind a new block, and behind a store into one of its own. -/
theorem keep_alloc {W : World} {a : Addr} {v : Value} (o : Obj) (h : W.cell? a = some v) : (W.alloc o).cell? a = some v :=
  (World.cell?_alloc_lt _ _ _ (World.block_lt_of_cell? W a h)).trans h
theorem keep_set {W : World} {a p : Addr} {v : Value} (u : Value) (hn : a.block ≠ p.block) (h : W.cell? a = some v) : (W.setCell p u).cell? a = some v :=
  (World.cell?_of_block (w := W) (Below.heap_setCell W p u a.block hn)).trans h
theorem below_alloc {w W : World} (o : Obj) (h : Below w.heap.size w W) : Below w.heap.size w (W.alloc o) := h.alloc h.size o
theorem below_set {w W : World} {p : Addr} (u : Value) (hp : w.heap.size ≤ p.block) (h : Below w.heap.size w W) : Below w.heap.size w (W.setCell p u) := h.setCell hp u
theorem blk {W : World} {b o : Nat} {v : Value} (h : W.cell? ⟨b, o, none⟩ = some v) : b < W.heap.size := World.block_lt_of_cell? W _ h
/-- Behind a call the block of a cell that is known lies below the heap's end. -/
theorem arm_size {W w1 : World} {b o : Nat} {v : Value} (h : W.cell? ⟨b, o, none⟩ = some v) (hb : Below W.heap.size W w1) : b < w1.heap.size :=
  Nat.lt_of_lt_of_le (World.block_lt_of_cell? W _ h) hb.size
/-- Behind a call the block that was laid last ahead of it is there. -/
theorem lt_of_alloc {W0 w1 : World} {o : Obj} (hb : Below (W0.alloc o).heap.size (W0.alloc o) w1) : W0.heap.size < w1.heap.size := by
  have := hb.size; simp at this; omega
theorem lt_of_alloc_drew {W0 w1 : World} {o : Obj} (hb : Below (W0.alloc o).drew.heap.size (W0.alloc o).drew w1) : W0.heap.size < w1.heap.size := by
  have := hb.size; simp at this; omega
/-- A store into a block that has just been laid is written into its literal. -/
theorem keep_realloc {W : World} {a : Addr} {v : Value} {o o' : Obj} (h : (W.alloc o).cell? a = some v) (hl : a.block < W.heap.size) : (W.alloc o').cell? a = some v :=
  (World.cell?_alloc_lt _ _ _ hl).trans ((World.cell?_alloc_lt _ _ _ hl).symm.trans h)
theorem below_realloc {w W : World} {o o' : Obj} (h : Below w.heap.size w (W.alloc o)) (hl : w.heap.size ≤ W.heap.size) : Below w.heap.size w (W.alloc o') :=
  ⟨h.os, h.tape, h.output, by simp; omega, fun k hk => by rw [Below.heap_alloc _ _ _ (by omega), ← Below.heap_alloc W o _ (by omega)]; exact h.block k hk⟩

theorem wf64 {n : Int} (h : (Lit.int .i64 n).wf = true) : -9223372036854775808 ≤ n ∧ n ≤ 9223372036854775807 := by
  simp only [Lit.wf, Bool.and_eq_true, decide_eq_true_eq] at h
  exact h

theorem ret_b {a b : Bool} (h : a = b) : Ending.returned (.bool a) = .returned (.bool b) := by rw [h]
theorem ret_iff {a b : Bool} (h : a = true ↔ b = true) : Ending.returned (.bool a) = .returned (.bool b) := by rw [Bool.eq_iff_iff.2 h]
theorem ret_i {k : IntKind} {a b : Int} (h : a = b) : Ending.returned (.int k a) = .returned (.int k b) := by rw [h]
theorem ret_a {a b c d : Int} (h : a = c) (h2 : b = d) : Ending.returned (.agg #[.int .i64 a, .int .i64 b]) = .returned (.agg #[.int .i64 c, .int .i64 d]) := by rw [h, h2]
theorem ret_ib {k : IntKind} {a b : Int} {c d : Bool} (h : a = b) (h2 : c = d) : Ending.returned (.tuple #[.int k a, .bool c]) = .returned (.tuple #[.int k b, .bool d]) := by rw [h, h2]

end Go.Proofs.Ytimmjejmcklofaa
