/-
  What ItvWide computes, the program's and the reference's: the steps' slice, the two loops. No conditions.
-/
import Derived.Test.YtempklcflcpjaaaItv
namespace Go.Proofs.Ytempklcflcpjaaa
set_option linter.unusedSimpArgs false
set_option linter.unusedVariables false
open Go.ChangeShapes Go.WideShapes Go.ChangeAt Go.RowKit

/-- The eleven steps lie in block g. -/
def StepsAt (w : World) (g : Nat) : Prop := ∀ k, k < 11 → w.cell? ⟨g, k, none⟩ = some (.int .i64 (stepsL.getD k 0))
/-- What holds while the bounds grow: x holds them as they are now, g the steps; the boxes of both arguments and of the result lie as they did. -/
structure WR (w : World) (x g : Nat) (al ah bl bh lo hi : Int) (wr : World) : Prop where
  lo : wr.cell? ⟨x, 0, none⟩ = some (.int .i64 lo)
  hi : wr.cell? ⟨x, 1, none⟩ = some (.int .i64 hi)
  fl : wr.frozen? ⟨x, 0, none⟩ = false
  fh : wr.frozen? ⟨x, 1, none⟩ = false
  al : wr.cell? ⟨w.heap.size, 0, none⟩ = some (.int .i64 al)
  ah : wr.cell? ⟨w.heap.size, 1, none⟩ = some (.int .i64 ah)
  bl : wr.cell? ⟨w.heap.size + 1, 0, none⟩ = some (.int .i64 bl)
  bh : wr.cell? ⟨w.heap.size + 1, 1, none⟩ = some (.int .i64 bh)
  r0 : wr.cell? ⟨w.heap.size + 1 + 1, 0, none⟩ = some (.int .i64 0)
  r1 : wr.cell? ⟨w.heap.size + 1 + 1, 1, none⟩ = some (.int .i64 0)
  f0 : wr.frozen? ⟨w.heap.size + 1 + 1, 0, none⟩ = false
  f1 : wr.frozen? ⟨w.heap.size + 1 + 1, 1, none⟩ = false
  st : StepsAt wr g
  be : Below w.heap.size w wr
  xg : x ≠ g
  xw : w.heap.size + 1 + 1 < x
theorem WR.drewN {w : World} {x g : Nat} {al ah bl bh lo hi : Int} {wr : World} (h : WR w x g al ah bl bh lo hi wr) (n : Nat) : WR w x g al ah bl bh lo hi (wr.drewN n) :=
  ⟨h.lo, h.hi, h.fl, h.fh, h.al, h.ah, h.bl, h.bh, h.r0, h.r1, h.f0, h.f1, h.st, h.be.trans (Joins.below_draws _ _ _), h.xg, h.xw⟩
theorem WR.set {w : World} {x g : Nat} {al ah bl bh lo hi : Int} {wr : World} (h : WR w x g al ah bl bh lo hi wr) (o : Nat) (v : Int) (lo' hi' : Int)
    (h0 : (wr.setCell ⟨x, o, none⟩ (.int .i64 v)).cell? ⟨x, 0, none⟩ = some (.int .i64 lo')) (h1 : (wr.setCell ⟨x, o, none⟩ (.int .i64 v)).cell? ⟨x, 1, none⟩ = some (.int .i64 hi')) : WR w x g al ah bl bh lo' hi' (wr.setCell ⟨x, o, none⟩ (.int .i64 v)) := by
  have k : ∀ b i, b ≠ x → (wr.setCell ⟨x, o, none⟩ (.int .i64 v)).cell? ⟨b, i, none⟩ = wr.cell? ⟨b, i, none⟩ := fun b i hb => World.cell?_of_block (w := wr) (Below.heap_setCell wr _ _ b hb)
  have f : ∀ b i, (wr.setCell ⟨x, o, none⟩ (.int .i64 v)).frozen? ⟨b, i, none⟩ = wr.frozen? ⟨b, i, none⟩ := fun b i => by simp
  have hx := h.xw
  exact ⟨h0, h1, (f _ _).trans h.fl, (f _ _).trans h.fh, (k _ _ (by omega)).trans h.al, (k _ _ (by omega)).trans h.ah, (k _ _ (by omega)).trans h.bl, (k _ _ (by omega)).trans h.bh,
    (k _ _ (by omega)).trans h.r0, (k _ _ (by omega)).trans h.r1, (f _ _).trans h.f0, (f _ _).trans h.f1, fun j hj => (k _ _ (Ne.symm h.xg)).trans (h.st j hj), h.be.setCell (by simp only; omega) _, h.xg, hx⟩
theorem WR.setLo {w : World} {x g : Nat} {al ah bl bh lo hi : Int} {wr : World} (h : WR w x g al ah bl bh lo hi wr) (v : Int) : WR w x g al ah bl bh v hi (wr.setCell ⟨x, 0, none⟩ (.int .i64 v)) :=
  h.set 0 v v hi (World.cell?_setCell_same wr _ _ h.lo) ((World.cell?_setCell_other wr _ _ _ (by simp)).trans h.hi)
theorem WR.setHi {w : World} {x g : Nat} {al ah bl bh lo hi : Int} {wr : World} (h : WR w x g al ah bl bh lo hi wr) (v : Int) : WR w x g al ah bl bh lo v (wr.setCell ⟨x, 1, none⟩ (.int .i64 v)) :=
  h.set 1 v lo v ((World.cell?_setCell_other wr _ _ _ (by simp)).trans h.lo) (World.cell?_setCell_same wr _ _ h.hi)

end Go.Proofs.Ytempklcflcpjaaa
