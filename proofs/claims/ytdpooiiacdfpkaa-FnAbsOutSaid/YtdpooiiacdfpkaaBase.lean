/-
  What all walks of this seat share: closed facts of the program, a row of integers that came in, small laws on worlds. No conditions.
-/
import Derived.Test.YtdpooiiacdfpkaaRows
import Derived.WalkKit
import Derived.WalkSpells
import Derived.WalkLawsBesides
import Derived.ProofKit
import Derived.OpenShut
import Derived.ShutString
import Derived.ChangeOld
import Derived.Below
import Derived.Lib.Hide
import Derived.Lib.SmallJoins
import Derived.Handy
import Derived.BigQuiet
import Derived.Deep.RegionHeld3
import Derived.Deep.DeepCutAuto
import Derived.Deep.QuietTactic
namespace Go.Proofs.Ytdpooiiacdfpkaa
set_option linter.unusedSimpArgs false
set_option linter.unusedVariables false
open Go.ChangeShapes Go.WideShapes Go.ChangeAt Go.RowKit

theorem own : ownKnob Try.prog.godebug = none := by kernel_rfl
theorem laidOut : laidOutB Try.prog = true := by kernel_rfl

/-- A slice of integers that came in: it is nil; or it leads to a row of 'cap' cells, the numbers 'zs' (the first 'len' are its elements), each fitting its kind. -/
def IsRow (k : IntKind) (w : World) (a : Option Addr) (len cap : Nat) (zs : List Int) : Prop :=
  (a = none ∧ len = 0 ∧ cap = 0 ∧ zs = []) ∨
  ∃ x, a = some x ∧ len ≤ cap ∧ cap ≤ maxLen ∧ zs.length = cap ∧ (∀ i, i < zs.length → w.cell? (x.add i) = some (.int k (zs.getD i 0))) ∧ ∀ n ∈ zs, (Lit.int k n).wf = true

/-- Behind a call that kept all that was there: the old cells and marks read as before. -/
theorem bcell {W w1 : World} (hb : Below W.heap.size W w1) : (∀ b o, b < W.heap.size → w1.cell? ⟨b, o, none⟩ = W.cell? ⟨b, o, none⟩) ∧ (∀ b o, b < W.heap.size → w1.frozen? ⟨b, o, none⟩ = W.frozen? ⟨b, o, none⟩) :=
  ⟨fun b o h => hb.cell (p := ⟨b, o, none⟩) h, fun b o h => hb.frozen (p := ⟨b, o, none⟩) h⟩

/-- One step more: what the next callee kept on top of what was kept so far. -/
theorem below_on {w W w1 : World} (h : Below w.heap.size w W) (hb : Below W.heap.size W w1) : Below w.heap.size w w1 := h.trans (hb.mono h.size)

/-! How far the heap goes, spelt as the walk asks it: behind a call the blocks that were laid ahead of it are there ('lt_1' ..), and those that were there before, too ('up_1' ..). -/
theorem lt_1 {n m : Nat} (h : n + 1 ≤ m) : n < m := by omega
theorem lt_2 {n m : Nat} (h : n + 1 + 1 ≤ m) : n < m ∧ n + 1 < m := ⟨by omega, by omega⟩
theorem lt_3 {n m : Nat} (h : n + 1 + 1 + 1 ≤ m) : n < m ∧ n + 1 < m ∧ n + 1 + 1 < m := ⟨by omega, by omega, by omega⟩
theorem lt_4 {n m : Nat} (h : n + 1 + 1 + 1 + 1 ≤ m) : n < m ∧ n + 1 < m ∧ n + 1 + 1 < m ∧ n + 1 + 1 + 1 < m := ⟨by omega, by omega, by omega, by omega⟩
theorem lt_5 {n m : Nat} (h : n + 1 + 1 + 1 + 1 + 1 ≤ m) : n < m ∧ n + 1 < m ∧ n + 1 + 1 < m ∧ n + 1 + 1 + 1 < m ∧ n + 1 + 1 + 1 + 1 < m := ⟨by omega, by omega, by omega, by omega, by omega⟩
theorem lt_6 {n m : Nat} (h : n + 1 + 1 + 1 + 1 + 1 + 1 ≤ m) : n < m ∧ n + 1 < m ∧ n + 1 + 1 < m ∧ n + 1 + 1 + 1 < m ∧ n + 1 + 1 + 1 + 1 < m ∧ n + 1 + 1 + 1 + 1 + 1 < m := ⟨by omega, by omega, by omega, by omega, by omega, by omega⟩
theorem lt_7 {n m : Nat} (h : n + 1 + 1 + 1 + 1 + 1 + 1 + 1 ≤ m) : n < m ∧ n + 1 < m ∧ n + 1 + 1 < m ∧ n + 1 + 1 + 1 < m ∧ n + 1 + 1 + 1 + 1 < m ∧ n + 1 + 1 + 1 + 1 + 1 < m ∧ n + 1 + 1 + 1 + 1 + 1 + 1 < m := ⟨by omega, by omega, by omega, by omega, by omega, by omega, by omega⟩
theorem up_1 {n0 m m1 : Nat} (h : n0 < m) (hm : m ≤ m1) : n0 < m1 := Nat.lt_of_lt_of_le h hm
theorem up_2 {n0 n1 m m1 : Nat} (h : n0 < m ∧ n1 < m) (hm : m ≤ m1) : n0 < m1 ∧ n1 < m1 := ⟨Nat.lt_of_lt_of_le h.1 hm, Nat.lt_of_lt_of_le h.2 hm⟩
theorem up_3 {n0 n1 n2 m m1 : Nat} (h : n0 < m ∧ n1 < m ∧ n2 < m) (hm : m ≤ m1) : n0 < m1 ∧ n1 < m1 ∧ n2 < m1 := ⟨Nat.lt_of_lt_of_le h.1 hm, Nat.lt_of_lt_of_le h.2.1 hm, Nat.lt_of_lt_of_le h.2.2 hm⟩
theorem up_4 {n0 n1 n2 n3 m m1 : Nat} (h : n0 < m ∧ n1 < m ∧ n2 < m ∧ n3 < m) (hm : m ≤ m1) : n0 < m1 ∧ n1 < m1 ∧ n2 < m1 ∧ n3 < m1 := ⟨Nat.lt_of_lt_of_le h.1 hm, Nat.lt_of_lt_of_le h.2.1 hm, Nat.lt_of_lt_of_le h.2.2.1 hm, Nat.lt_of_lt_of_le h.2.2.2 hm⟩
theorem up_5 {n0 n1 n2 n3 n4 m m1 : Nat} (h : n0 < m ∧ n1 < m ∧ n2 < m ∧ n3 < m ∧ n4 < m) (hm : m ≤ m1) : n0 < m1 ∧ n1 < m1 ∧ n2 < m1 ∧ n3 < m1 ∧ n4 < m1 := ⟨Nat.lt_of_lt_of_le h.1 hm, Nat.lt_of_lt_of_le h.2.1 hm, Nat.lt_of_lt_of_le h.2.2.1 hm, Nat.lt_of_lt_of_le h.2.2.2.1 hm, Nat.lt_of_lt_of_le h.2.2.2.2 hm⟩
theorem up_6 {n0 n1 n2 n3 n4 n5 m m1 : Nat} (h : n0 < m ∧ n1 < m ∧ n2 < m ∧ n3 < m ∧ n4 < m ∧ n5 < m) (hm : m ≤ m1) : n0 < m1 ∧ n1 < m1 ∧ n2 < m1 ∧ n3 < m1 ∧ n4 < m1 ∧ n5 < m1 := ⟨Nat.lt_of_lt_of_le h.1 hm, Nat.lt_of_lt_of_le h.2.1 hm, Nat.lt_of_lt_of_le h.2.2.1 hm, Nat.lt_of_lt_of_le h.2.2.2.1 hm, Nat.lt_of_lt_of_le h.2.2.2.2.1 hm, Nat.lt_of_lt_of_le h.2.2.2.2.2 hm⟩
theorem up_7 {n0 n1 n2 n3 n4 n5 n6 m m1 : Nat} (h : n0 < m ∧ n1 < m ∧ n2 < m ∧ n3 < m ∧ n4 < m ∧ n5 < m ∧ n6 < m) (hm : m ≤ m1) : n0 < m1 ∧ n1 < m1 ∧ n2 < m1 ∧ n3 < m1 ∧ n4 < m1 ∧ n5 < m1 ∧ n6 < m1 := ⟨Nat.lt_of_lt_of_le h.1 hm, Nat.lt_of_lt_of_le h.2.1 hm, Nat.lt_of_lt_of_le h.2.2.1 hm, Nat.lt_of_lt_of_le h.2.2.2.1 hm, Nat.lt_of_lt_of_le h.2.2.2.2.1 hm, Nat.lt_of_lt_of_le h.2.2.2.2.2.1 hm, Nat.lt_of_lt_of_le h.2.2.2.2.2.2 hm⟩
/-! What a region that draws its order keeps: behind a new block, and behind a store into one of its own. -/
theorem keep_alloc {W : World} {a : Addr} {v : Value} (o : Obj) (h : W.cell? a = some v) : (W.alloc o).cell? a = some v :=
  (World.cell?_alloc_lt _ _ _ (World.block_lt_of_cell? W a h)).trans h
theorem keep_set {W : World} {a p : Addr} {v : Value} (u : Value) (hn : a.block ≠ p.block) (h : W.cell? a = some v) : (W.setCell p u).cell? a = some v :=
  (World.cell?_of_block (w := W) (Below.heap_setCell W p u a.block hn)).trans h
theorem below_alloc {w W : World} (o : Obj) (h : Below w.heap.size w W) : Below w.heap.size w (W.alloc o) := h.alloc h.size o
theorem below_set {w W : World} {p : Addr} (u : Value) (hp : w.heap.size ≤ p.block) (h : Below w.heap.size w W) : Below w.heap.size w (W.setCell p u) := h.setCell hp u
theorem blk {W : World} {b o : Nat} {v : Value} (h : W.cell? ⟨b, o, none⟩ = some v) : b < W.heap.size := World.block_lt_of_cell? W _ h
/-- Behind a call the block of a cell that is known lies below the heap's end. -/
theorem arm_size {W w1 : World} {b o : Nat} {v : Value} (h : W.cell? ⟨b, o, none⟩ = some v) (hb : Below W.heap.size W w1) : b < w1.heap.size :=
  Nat.lt_of_lt_of_le (World.block_lt_of_cell? W _ h) hb.size
/-- Behind a call the block that was laid last ahead of it is there. -/
theorem lt_of_alloc {W0 w1 : World} {o : Obj} (hb : Below (W0.alloc o).heap.size (W0.alloc o) w1) : W0.heap.size < w1.heap.size := by
  have := hb.size; simp at this; omega
theorem lt_of_alloc_drew {W0 w1 : World} {o : Obj} (hb : Below (W0.alloc o).drew.heap.size (W0.alloc o).drew w1) : W0.heap.size < w1.heap.size := by
  have := hb.size; simp at this; omega
/-- A store into a block that has just been laid is written into its literal. -/
theorem keep_realloc {W : World} {a : Addr} {v : Value} {o o' : Obj} (h : (W.alloc o).cell? a = some v) (hl : a.block < W.heap.size) : (W.alloc o').cell? a = some v :=
  (World.cell?_alloc_lt _ _ _ hl).trans ((World.cell?_alloc_lt _ _ _ hl).symm.trans h)
theorem below_realloc {w W : World} {o o' : Obj} (h : Below w.heap.size w (W.alloc o)) (hl : w.heap.size ≤ W.heap.size) : Below w.heap.size w (W.alloc o') :=
  ⟨h.os, h.tape, h.output, by simp; omega, fun k hk => by rw [Below.heap_alloc _ _ _ (by omega), ← Below.heap_alloc W o _ (by omega)]; exact h.block k hk⟩

theorem wf64 {n : Int} (h : (Lit.int .i64 n).wf = true) : -9223372036854775808 ≤ n ∧ n ≤ 9223372036854775807 := by
  simp only [Lit.wf, Bool.and_eq_true, decide_eq_true_eq] at h
  exact h

/-- All that was there is as it was, but for block b (of this call's own, or a reader's). -/
structure But (b : Nat) (w w' : World) : Prop where
  os : w'.os = w.os
  tape : w'.tape = w.tape
  output : w'.output = w.output
  size : w.heap.size ≤ w'.heap.size
  block : ∀ k, k < w.heap.size → k ≠ b → w'.heap[k]? = w.heap[k]?
theorem But.refl (b : Nat) (w : World) : But b w w := ⟨rfl, rfl, rfl, Nat.le_refl _, fun _ _ _ => rfl⟩
theorem But.trans {b : Nat} {u v w : World} (h : But b u v) (k : But b v w) : But b u w :=
  ⟨k.os.trans h.os, k.tape.trans h.tape, k.output.trans h.output, Nat.le_trans h.size k.size, fun i hi hb => (k.block i (Nat.lt_of_lt_of_le hi h.size) hb).trans (h.block i hi hb)⟩
theorem But.of_below {b : Nat} {w w' : World} (h : Below w.heap.size w w') : But b w w' := ⟨h.os, h.tape, h.output, h.size, fun k hk _ => h.block k hk⟩
theorem But.to_below {b B : Nat} {u w w' : World} (h : But b w w') (hu : Below B u w) (hb : B ≤ b) (hB : B ≤ w.heap.size) : Below B u w' :=
  hu.trans ⟨h.os, h.tape, h.output, h.size, fun k hk => h.block k (by omega) (by omega)⟩
theorem But.alloc {b : Nat} {u w : World} (h : But b u w) (o : Obj) : But b u (w.alloc o) :=
  h.trans ⟨rfl, rfl, rfl, by simp, fun k hk _ => Below.heap_alloc _ _ _ hk⟩
theorem But.drew {b : Nat} {u w : World} (h : But b u w) : But b u w.drew := ⟨h.os, h.tape, h.output, h.size, h.block⟩
theorem But.setCell {b : Nat} {u w : World} (h : But b u w) {p : Addr} (hp : p.block = b ∨ u.heap.size ≤ p.block) (v : Value) : But b u (w.setCell p v) := by
  refine ⟨h.os, h.tape, h.output, ?_, fun k hk hb => ?_⟩
  · show u.heap.size ≤ (w.setCell p v).heap.size
    simp [World.setCell]; exact h.size
  · rw [Below.heap_setCell _ _ _ _ (by omega)]; exact h.block k hk hb
theorem But.cell {b : Nat} {w w' : World} (h : But b w w') {p : Addr} (hp : p.block < w.heap.size) (hb : p.block ≠ b) : w'.cell? p = w.cell? p := World.cell?_of_block (w := w) (h.block p.block hp hb)
theorem But.frozen {b : Nat} {w w' : World} (h : But b w w') {p : Addr} (hp : p.block < w.heap.size) (hb : p.block ≠ b) : w'.frozen? p = w.frozen? p := World.frozen?_of_block (w := w) (h.block p.block hp hb)

theorem ret_ab {a b c d : Int} {x y : Bool} (h : a = c) (h2 : b = d) (h3 : x = y) : Ending.returned (.tuple #[.agg #[.int .i64 a, .int .i64 b], .bool x]) = .returned (.tuple #[.agg #[.int .i64 c, .int .i64 d], .bool y]) := by rw [h, h2, h3]
theorem ret_b {a b : Bool} (h : a = b) : Ending.returned (.bool a) = .returned (.bool b) := by rw [h]
theorem ret_iff {a b : Bool} (h : a = true ↔ b = true) : Ending.returned (.bool a) = .returned (.bool b) := by rw [Bool.eq_iff_iff.2 h]
theorem ret_i {k : IntKind} {a b : Int} (h : a = b) : Ending.returned (.int k a) = .returned (.int k b) := by rw [h]
theorem ret_a {a b c d : Int} (h : a = c) (h2 : b = d) : Ending.returned (.agg #[.int .i64 a, .int .i64 b]) = .returned (.agg #[.int .i64 c, .int .i64 d]) := by rw [h, h2]
theorem ret_ib {k : IntKind} {a b : Int} {c d : Bool} (h : a = b) (h2 : c = d) : Ending.returned (.tuple #[.int k a, .bool c]) = .returned (.tuple #[.int k b, .bool d]) := by rw [h, h2]

end Go.Proofs.Ytdpooiiacdfpkaa
