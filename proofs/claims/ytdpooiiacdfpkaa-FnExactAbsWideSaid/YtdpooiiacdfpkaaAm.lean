/-
  A box of four cells, carried through calls. No conditions but those that each theorem says.
-/
import Derived.Test.YtdpooiiacdfpkaaAj
namespace Go.Proofs.Ytdpooiiacdfpkaa
set_option linter.unusedSimpArgs false
set_option linter.unusedVariables false
open Go.ChangeShapes Go.WideShapes Go.ChangeAt Go.RowKit Go.Sort
/-- Block g reads so. -/
def Box (w : World) (g : Nat) (v0 v1 v2 v3 : Value) : Prop := w.cell? ⟨g, 0, none⟩ = some v0 ∧ w.cell? ⟨g, 1, none⟩ = some v1 ∧ w.cell? ⟨g, 2, none⟩ = some v2 ∧ w.cell? ⟨g, 3, none⟩ = some v3
section
variable {w w' : World} {g b : Nat} {v0 v1 v2 v3 : Value}
theorem Box.out (h : Box w g v0 v1 v2 v3) : w.cell? ⟨g, 0, none⟩ = some v0 ∧ w.cell? ⟨g, 1, none⟩ = some v1 ∧ w.cell? ⟨g, 2, none⟩ = some v2 ∧ w.cell? ⟨g, 3, none⟩ = some v3 := h
theorem Box.lt (h : Box w g v0 v1 v2 v3) : g < w.heap.size := World.block_lt_of_cell? w _ h.1
theorem Box.below (h : Box w g v0 v1 v2 v3) (hb : Below w.heap.size w w') : Box w' g v0 v1 v2 v3 :=
  ⟨(hb.cell (World.block_lt_of_cell? w _ h.1)).trans h.1, (hb.cell (World.block_lt_of_cell? w _ h.2.1)).trans h.2.1, (hb.cell (World.block_lt_of_cell? w _ h.2.2.1)).trans h.2.2.1, (hb.cell (World.block_lt_of_cell? w _ h.2.2.2)).trans h.2.2.2⟩
theorem Box.alloc (h : Box w g v0 v1 v2 v3) (o : Obj) : Box (w.alloc o) g v0 v1 v2 v3 := h.below ((Below.refl _ _).alloc (Nat.le_refl _) o)
theorem Box.drew (h : Box w g v0 v1 v2 v3) : Box w.drew g v0 v1 v2 v3 := h.below (Below.refl _ _).drew
theorem Box.but (h : Box w g v0 v1 v2 v3) (hb : But b w w') (hn : g ≠ b) : Box w' g v0 v1 v2 v3 :=
  ⟨(hb.cell (World.block_lt_of_cell? w _ h.1) hn).trans h.1, (hb.cell (World.block_lt_of_cell? w _ h.2.1) hn).trans h.2.1, (hb.cell (World.block_lt_of_cell? w _ h.2.2.1) hn).trans h.2.2.1, (hb.cell (World.block_lt_of_cell? w _ h.2.2.2) hn).trans h.2.2.2⟩
theorem Box.new_at {t : TypeId} (h : w.heap.size = g) : Box (w.alloc (.cells #[v0, v1, v2, v3] t)) g v0 v1 v2 v3 := (Blk.new_at h).four
theorem OwnB.drew {len : Nat} {z : List (Int × Int)} (h : OwnB w g len z) : OwnB w.drew g len z := h.below (Below.refl _ _).drew
theorem Below.drew2 {n : Nat} (h : Below n w w') : Below n w w'.drew := h.drew
theorem rd_nil (w : World) : RdI w none 0 [] := ⟨rfl, .inl rfl⟩
end
end Go.Proofs.Ytdpooiiacdfpkaa
