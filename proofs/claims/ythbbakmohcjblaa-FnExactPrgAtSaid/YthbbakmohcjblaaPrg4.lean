/-
  Programs in memory, on: the laws' own copying of instructions. No conditions but those that each theorem says. (Printed by wip/genprg4.py.)
-/
import Derived.Test.YthbbakmohcjblaaPrg3
namespace Go.Proofs.Ythbbakmohcjblaa
set_option linter.unusedSimpArgs false
set_option linter.unusedVariables false
open Go.ChangeShapes Go.WideShapes Go.ChangeAt Go.RowKit Go.Sort

theorem info_ins : (Try.prog.info? 42).map (fun i => (i.zero, i.size, i.bytes)) = some (some (.agg #[.int .i64 0, .int .i64 0, .int .i64 0, .int .i64 0, .int .i64 0, .int .i64 0, .int .i64 0, .int .i64 0]), 8, 64) := by kernel_rfl
def Written8 (cs : Array Value) (n k : Nat) (F : Nat → Nat → Int) : Prop := cs.size = n * 8 ∧ ∀ i, i < k → ∀ j, j < 8 → cs[i * 8 + j]? = some (.int .i64 (F i j))
theorem Written8.step {cs : Array Value} {n k : Nat} {F : Nat → Nat → Int} (h : Written8 cs n k F) (hk : k < n) : Written8 (((((((((cs).setIfInBounds (k * 8) (.int .i64 (F k 0))).setIfInBounds (k * 8 + 1) (.int .i64 (F k 1))).setIfInBounds (k * 8 + 2) (.int .i64 (F k 2))).setIfInBounds (k * 8 + 3) (.int .i64 (F k 3))).setIfInBounds (k * 8 + 4) (.int .i64 (F k 4))).setIfInBounds (k * 8 + 5) (.int .i64 (F k 5))).setIfInBounds (k * 8 + 6) (.int .i64 (F k 6))).setIfInBounds (k * 8 + 7) (.int .i64 (F k 7))) n (k + 1) F := by
  obtain ⟨hs, h⟩ := h
  refine ⟨by simp [hs], fun i hi j hj => ?_⟩
  by_cases e : i = k
  · subst e
    obtain rfl | rfl | rfl | rfl | rfl | rfl | rfl | rfl : j = 0 ∨ j = 1 ∨ j = 2 ∨ j = 3 ∨ j = 4 ∨ j = 5 ∨ j = 6 ∨ j = 7 := by omega
    all_goals first | ((repeat rw [Array.getElem?_setIfInBounds_ne (by omega)]); rw [Array.getElem?_setIfInBounds_self_of_lt (by (try simp only [Array.size_setIfInBounds]); omega)]) | ((show (_ : Array Value)[i * 8]? = _); ((repeat rw [Array.getElem?_setIfInBounds_ne (by omega)]); rw [Array.getElem?_setIfInBounds_self_of_lt (by (try simp only [Array.size_setIfInBounds]); omega)]))
  · repeat rw [Array.getElem?_setIfInBounds_ne (by omega)]
    exact h i (by omega) j hj
theorem Written8.rd {w : World} {g : Nat} {t : TypeId} {cs : Array Value} {n : Nat} {F : Nat → Nat → Int} (h : Written8 cs n n F) (hb : Blk w g t cs) : RdC w (some ⟨g, 0, none⟩) n F :=
  .inr ⟨_, rfl, fun i hi j hj => by
    rw [add_none, Nat.zero_add]
    have := h.2 i hi j hj
    cases j with
    | zero => rw [show fld ⟨g, i * 8, none⟩ 0 = ⟨g, i * 8 + 0, none⟩ from rfl, hb.cell, this]
    | succ j => rw [show fld ⟨g, i * 8, none⟩ (j + 1) = ⟨g, i * 8 + (j + 1), none⟩ from rfl, hb.cell, this]⟩
def SliceC (w : World) (len : Nat) (F : Nat → Nat → Int) (e : Ending) (w' : World) : Prop := ∃ g, e = .returned (.slice (some ⟨g, 0, none⟩) len len) ∧ w.heap.size ≤ g ∧ RdC w' (some ⟨g, 0, none⟩) len F ∧ Below w.heap.size w w'
set_option maxRecDepth 100000 in
set_option maxHeartbeats 8000000 in
theorem toInsS_l (a : Option Addr) (len cap : Nat) (F : Nat → Nat → Int) (w : World) (hz : RdC w a len F) (hl : len ≤ 1048576) : Calls Try.prog 66 #[.slice a len cap] w (SliceC w len F) := by
  obtain ⟨i0, hi, hz0, hz1, hz2⟩ := info_parts info_ins
  have hmk : ∀ W : World, (Instr.makeSlice 82 (.int .i64 (len : Int)) (.int .i64 (len : Int))).run Try.prog W = .ok (.slice (some ⟨W.heap.size, 0, none⟩) len len) (W.alloc (.cells (madeCells (#[.int .i64 0, .int .i64 0, .int .i64 0, .int .i64 0, .int .i64 0, .int .i64 0, .int .i64 0, .int .i64 0]) (len * 8)) 42)) := fun W => by
    have h := run_make (P := Try.prog) W 82 42 i0 _ Try.underlying82 hi hz0 .i64 .i64 (len : Int) (len : Int) (by omega) (by omega) (by rw [hz2]; omega) (by omega)
    simp only [Int.toNat_natCast, hz1] at h
    exact h
  have HZ := Lib.hid hz
  clear hz
  go_enter Try.func66, Try.ntmps66
  go_wp2_with fail
  clear hmk
  have hB0 : Blk (w.alloc (.cells (madeCells (#[.int .i64 0, .int .i64 0, .int .i64 0, .int .i64 0, .int .i64 0, .int .i64 0, .int .i64 0, .int .i64 0]) (len * 8)) 42)) w.heap.size 42 (madeCells (#[.int .i64 0, .int .i64 0, .int .i64 0, .int .i64 0, .int .i64 0, .int .i64 0, .int .i64 0, .int .i64 0]) (len * 8)) := Blk.new _ _ _
  go_loopw [4] (fun i wr => ∃ (k : Nat) (cs : Array Value), k ≤ len ∧ i = .int .i64 k ∧ Hid (Blk wr w.heap.size 42 cs ∧ Written8 cs len k F) ∧ Below w.heap.size w wr) (fun i _ => len - (intOf i).toNat)
  case atStart => exact ⟨0, _, by omega, rfl, Lib.hid ⟨hB0, size_madeCells _ _, fun i hi => by omega⟩, by go_grown⟩
  case round =>
    obtain ⟨k, cs, hk, rfl, hH, hS⟩ := hrel
    have hlk : (len : Int) ≤ 1048576 := by omega
    by_cases hlt : k < len
    · obtain ⟨hb0, hw0⟩ := hH.out
      obtain ⟨x, rfl, hx⟩ := (HZ.out.below hS).some (by omega)
      have kx0 : wr.cell? (x.add (k * 8)) = _ := hx k hlt 0 (by omega)
      have kx1 : wr.cell? ⟨(x.add (k * 8)).block, (x.add (k * 8)).off + 1, none⟩ = _ := hx k hlt 1 (by omega)
      have kx2 : wr.cell? ⟨(x.add (k * 8)).block, (x.add (k * 8)).off + 2, none⟩ = _ := hx k hlt 2 (by omega)
      have kx3 : wr.cell? ⟨(x.add (k * 8)).block, (x.add (k * 8)).off + 3, none⟩ = _ := hx k hlt 3 (by omega)
      have kx4 : wr.cell? ⟨(x.add (k * 8)).block, (x.add (k * 8)).off + 4, none⟩ = _ := hx k hlt 4 (by omega)
      have kx5 : wr.cell? ⟨(x.add (k * 8)).block, (x.add (k * 8)).off + 5, none⟩ = _ := hx k hlt 5 (by omega)
      have kx6 : wr.cell? ⟨(x.add (k * 8)).block, (x.add (k * 8)).off + 6, none⟩ = _ := hx k hlt 6 (by omega)
      have kx7 : wr.cell? ⟨(x.add (k * 8)).block, (x.add (k * 8)).off + 7, none⟩ = _ := hx k hlt 7 (by omega)
      clear hx hH
      have hst := hw0.step hlt
      obtain ⟨y0, hy0⟩ : ∃ q, q = F k 0 := ⟨_, rfl⟩
      rw [← hy0] at kx0 hst
      obtain ⟨y1, hy1⟩ : ∃ q, q = F k 1 := ⟨_, rfl⟩
      rw [← hy1] at kx1 hst
      obtain ⟨y2, hy2⟩ : ∃ q, q = F k 2 := ⟨_, rfl⟩
      rw [← hy2] at kx2 hst
      obtain ⟨y3, hy3⟩ : ∃ q, q = F k 3 := ⟨_, rfl⟩
      rw [← hy3] at kx3 hst
      obtain ⟨y4, hy4⟩ : ∃ q, q = F k 4 := ⟨_, rfl⟩
      rw [← hy4] at kx4 hst
      obtain ⟨y5, hy5⟩ : ∃ q, q = F k 5 := ⟨_, rfl⟩
      rw [← hy5] at kx5 hst
      obtain ⟨y6, hy6⟩ : ∃ q, q = F k 6 := ⟨_, rfl⟩
      rw [← hy6] at kx6 hst
      obtain ⟨y7, hy7⟩ : ∃ q, q = F k 7 := ⟨_, rfl⟩
      rw [← hy7] at kx7 hst
      have HB := Lib.hid (And.intro hb0 hw0)
      have HS := Lib.hid hst
      clear hb0 hw0 hst hy0 hy1 hy2 hy3 hy4 hy5 hy6 hy7
      go_wp2_with fail
      refine (toIns_l _ _ _ _ _ _ _ _ _).mono ?_
      rintro e w1 ⟨rfl, hb1⟩
      have hB1 := HB.out.1.below hb1
      have hS1 : Below w.heap.size w w1 := below_on hS hb1
      have hcs := HB.out.2.1
      obtain ⟨v0, hv0⟩ : ∃ v, cs[k * 8]? = some v := ⟨_, Array.getElem?_eq_getElem (by omega)⟩
      have q0 := (hB1.cell (k * 8)).trans hv0
      have f0 := hB1.frozen (k * 8)
      obtain ⟨v1, hv1⟩ : ∃ v, cs[k * 8 + 1]? = some v := ⟨_, Array.getElem?_eq_getElem (by omega)⟩
      have q1 := (hB1.cell (k * 8 + 1)).trans hv1
      have f1 := hB1.frozen (k * 8 + 1)
      obtain ⟨v2, hv2⟩ : ∃ v, cs[k * 8 + 2]? = some v := ⟨_, Array.getElem?_eq_getElem (by omega)⟩
      have q2 := (hB1.cell (k * 8 + 2)).trans hv2
      have f2 := hB1.frozen (k * 8 + 2)
      obtain ⟨v3, hv3⟩ : ∃ v, cs[k * 8 + 3]? = some v := ⟨_, Array.getElem?_eq_getElem (by omega)⟩
      have q3 := (hB1.cell (k * 8 + 3)).trans hv3
      have f3 := hB1.frozen (k * 8 + 3)
      obtain ⟨v4, hv4⟩ : ∃ v, cs[k * 8 + 4]? = some v := ⟨_, Array.getElem?_eq_getElem (by omega)⟩
      have q4 := (hB1.cell (k * 8 + 4)).trans hv4
      have f4 := hB1.frozen (k * 8 + 4)
      obtain ⟨v5, hv5⟩ : ∃ v, cs[k * 8 + 5]? = some v := ⟨_, Array.getElem?_eq_getElem (by omega)⟩
      have q5 := (hB1.cell (k * 8 + 5)).trans hv5
      have f5 := hB1.frozen (k * 8 + 5)
      obtain ⟨v6, hv6⟩ : ∃ v, cs[k * 8 + 6]? = some v := ⟨_, Array.getElem?_eq_getElem (by omega)⟩
      have q6 := (hB1.cell (k * 8 + 6)).trans hv6
      have f6 := hB1.frozen (k * 8 + 6)
      obtain ⟨v7, hv7⟩ : ∃ v, cs[k * 8 + 7]? = some v := ⟨_, Array.getElem?_eq_getElem (by omega)⟩
      have q7 := (hB1.cell (k * 8 + 7)).trans hv7
      have f7 := hB1.frozen (k * 8 + 7)
      have HB1 := Lib.hid hB1
      clear hb1 hcs hB1 hv0 hv1 hv2 hv3 hv4 hv5 hv6 hv7
      go_wp2_with fail
      go_roundw
      case rel => exact ⟨k + 1, _, by omega, by go_num, Lib.hid ⟨((((((((HB1.out).set_ (k * 8) _).set_ (k * 8 + 1) _).set_ (k * 8 + 2) _).set_ (k * 8 + 3) _).set_ (k * 8 + 4) _).set_ (k * 8 + 5) _).set_ (k * 8 + 6) _).set_ (k * 8 + 7) _, HS.out⟩, ((((((((hS1).setCell (Nat.le_refl _) _).setCell (Nat.le_refl _) _).setCell (Nat.le_refl _) _).setCell (Nat.le_refl _) _).setCell (Nat.le_refl _) _).setCell (Nat.le_refl _) _).setCell (Nat.le_refl _) _).setCell (Nat.le_refl _) _⟩
      case measure => simp [intOf] <;> omega
    · obtain rfl : k = len := by omega
      go_wp2_with fail
      go_ret
      unfold SliceC
      exact ⟨_, rfl, Nat.le_refl _, hH.out.2.rd hH.out.1, hS⟩
end Go.Proofs.Ythbbakmohcjblaa
