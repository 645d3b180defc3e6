/-
  Slices of ints: the laws' own functions on them; when an abstract state has numbers: the reference's AbsHas, by contract. No conditions but those that each theorem says.
-/
import Derived.Test.YthbbakmohcjblaaAbsIn2
namespace Go.Proofs.Ythbbakmohcjblaa
set_option linter.unusedSimpArgs false
set_option linter.unusedVariables false
open Go.ChangeShapes Go.WideShapes Go.ChangeAt Go.RowKit Go.Sort

/-- A slice of ints reads as a list's first numbers. -/
def RdN (w : World) (a : Option Addr) (len : Nat) (z : List Int) : Prop := len = 0 ∨ ∃ x, a = some x ∧ ∀ i, i < len → w.cell? (x.add i) = some (.int .i64 (z.getD i 0))
theorem RdN.of_row {w : World} {a : Option Addr} {len cap : Nat} {z : List Int} (h : IsRow .i64 w a len cap z) : RdN w a len z := by
  rcases h with ⟨_, h, _, _⟩ | ⟨x, hx, hl, _, hz, hc, _⟩
  · exact .inl h
  · exact .inr ⟨x, hx, fun i hi => hc i (by omega)⟩
theorem RdN.below {w w' : World} {a : Option Addr} {len : Nat} {z : List Int} (h : RdN w a len z) (hb : Below w.heap.size w w') : RdN w' a len z := by
  rcases h with h | ⟨x, rfl, h⟩
  · exact .inl h
  · exact .inr ⟨x, rfl, fun i hi => (hb.cell (World.block_lt_of_cell? w _ (h i hi))).trans (h i hi)⟩
theorem RdN.some {w : World} {a : Option Addr} {len : Nat} {z : List Int} (h : RdN w a len z) (hl : 0 < len) : ∃ x, a = some x ∧ ∀ i, i < len → w.cell? (x.add i) = some (.int .i64 (z.getD i 0)) := by
  rcases h with h | h
  · omega
  · exact h
def Written1 (cs : Array Value) (len k : Nat) (z : List Int) : Prop := cs.size = len ∧ ∀ i, i < k → cs[i]? = some (.int .i64 (z.getD i 0))
theorem Written1.step {cs : Array Value} {len k : Nat} {z : List Int} (h : Written1 cs len k z) (hk : k < len) : Written1 (cs.setIfInBounds k (.int .i64 (z.getD k 0))) len (k + 1) z := by
  obtain ⟨hs, h⟩ := h
  refine ⟨by simp [hs], fun i hi => ?_⟩
  by_cases e : i = k
  · subst e; rw [Array.getElem?_setIfInBounds_self_of_lt (by omega)]
  · rw [Array.getElem?_setIfInBounds_ne (by omega)]; exact h i (by omega)
theorem Written1.rd {w : World} {g : Nat} {t : TypeId} {cs : Array Value} {len : Nat} {z : List Int} (h : Written1 cs len len z) (hb : Blk w g t cs) : RdN w (some ⟨g, 0, none⟩) len z :=
  .inr ⟨_, rfl, fun i hi => by rw [add_none, Nat.zero_add, hb.cell, h.2 i hi]⟩
theorem info_int : (Try.prog.info? 3).map (fun i => (i.zero, i.size, i.bytes)) = some (some (.int .i64 0), 1, 8) := by kernel_rfl
def SliceN (w : World) (len : Nat) (z : List Int) (e : Ending) (w' : World) : Prop := ∃ g, e = .returned (.slice (some ⟨g, 0, none⟩) len len) ∧ w.heap.size ≤ g ∧ RdN w' (some ⟨g, 0, none⟩) len z ∧ Below w.heap.size w w'
set_option maxRecDepth 100000 in
set_option maxHeartbeats 4000000 in
theorem toIntS_l (a : Option Addr) (len cap : Nat) (z : List Int) (w : World) (hz : RdN w a len z) (hl : len ≤ 1048576) : Calls Try.prog 29 #[.slice a len cap] w (SliceN w len z) := by
  obtain ⟨i0, hi, hz0, hz1, hz2⟩ := info_parts info_int
  have hmk : ∀ W : World, (Instr.makeSlice 61 (.int .i64 (len : Int)) (.int .i64 (len : Int))).run Try.prog W = .ok (.slice (some ⟨W.heap.size, 0, none⟩) len len) (W.alloc (.cells (madeCells #[Value.int .i64 0] len) 3)) := fun W => by
    have h := run_make (P := Try.prog) W 61 3 i0 _ Try.underlying61 hi hz0 .i64 .i64 (len : Int) (len : Int) (by omega) (by omega) (by rw [hz2]; omega) (by omega)
    simp only [Int.toNat_natCast, hz1, Nat.mul_one] at h
    exact h
  have HZ := Lib.hid hz
  clear hz
  go_enter Try.func29, Try.ntmps29
  go_wp2_with fail
  clear hmk
  have hB0 : Blk (w.alloc (.cells (madeCells #[Value.int .i64 0] len) 3)) w.heap.size 3 (madeCells #[Value.int .i64 0] len) := Blk.new _ _ _
  go_loopw [4] (fun i wr => ∃ (k : Nat) (cs : Array Value), k ≤ len ∧ i = .int .i64 k ∧ Hid (Blk wr w.heap.size 3 cs ∧ Written1 cs len k z) ∧ Below w.heap.size w wr) (fun i _ => len - (intOf i).toNat)
  case atStart => exact ⟨0, _, by omega, rfl, Lib.hid ⟨hB0, size_madeCells _ _, fun i hi => by omega⟩, by go_grown⟩
  case round =>
    obtain ⟨k, cs, hk, rfl, hH, hS⟩ := hrel
    have hlk : (len : Int) ≤ 1048576 := by omega
    by_cases hlt : k < len
    · obtain ⟨hb0, hw0⟩ := hH.out
      obtain ⟨x, rfl, hx⟩ := (HZ.out.below hS).some (by omega)
      have hx0 := hx k hlt
      clear hx hH
      have hst := hw0.step hlt
      obtain ⟨y, hq⟩ : ∃ q, q = z.getD k 0 := ⟨_, rfl⟩
      rw [← hq] at hx0 hst
      clear hq
      have hcs := hw0.1
      obtain ⟨v0, hv0⟩ : ∃ v, cs[k]? = some v := ⟨_, Array.getElem?_eq_getElem (by omega)⟩
      have g0 := (hb0.cell k).trans hv0
      have f0 := hb0.frozen k
      have HB := Lib.hid hb0
      have HS := Lib.hid hst
      clear hb0 hw0 hst hcs hv0
      go_wp2_with fail
      go_roundw
      case rel => exact ⟨k + 1, _, by omega, by go_num, Lib.hid ⟨HB.out.set_ k _, HS.out⟩, hS.setCell (Nat.le_refl _) _⟩
      case measure => simp [intOf] <;> omega
    · obtain rfl : k = len := by omega
      go_wp2_with fail
      go_ret
      unfold SliceN
      exact ⟨_, rfl, Nat.le_refl _, hH.out.2.rd hH.out.1, hS⟩
set_option maxRecDepth 100000 in
set_option maxHeartbeats 4000000 in
theorem eqIntS_l (a b : Option Addr) (len ca cb : Nat) (z : List Int) (w : World) (ha : RdN w a len z) (hb : RdN w b len z) (hl : len ≤ 1048576) : Calls Try.prog 31 #[.slice a len ca, .slice b len cb] w fun e w' => e = .returned (.bool true) ∧ Below w.heap.size w w' := by
  have HA := Lib.hid ha
  have HB := Lib.hid hb
  have hlk : (len : Int) ≤ 1048576 := by omega
  clear ha hb
  go_enter Try.func31, Try.ntmps31
  go_wp2_with fail
  go_loopw [5] (fun i wr => ∃ k : Nat, k ≤ len ∧ i = .int .i64 k ∧ Below w.heap.size w wr) (fun i _ => len - (intOf i).toNat)
  case atStart => exact ⟨0, by omega, rfl, Below.refl _ _⟩
  case round =>
    obtain ⟨k, hk, rfl, hS⟩ := hrel
    by_cases hlt : k < len
    · obtain ⟨x, rfl, hx⟩ := HA.out.some (by omega)
      obtain ⟨y, rfl, hy⟩ := HB.out.some (by omega)
      have hx0 := hx k hlt
      have hy0 := hy k hlt
      obtain ⟨q, hq⟩ : ∃ q, q = z.getD k 0 := ⟨_, rfl⟩
      rw [← hq] at hx0 hy0
      clear hq hx hy
      have kx0 := cell_regrown hx0
      have ky0 := cell_regrown hy0
      have j0 : (0 : Int) ≤ k := by omega
      have j1 : (k : Int) < len := by omega
      clear hx0 hy0
      go_wp2_with fail
      ((refine region_below (W0 := w) mixed_ok (by kernel_rfl) hS ?_); (repeat (go_big_quiet_step (fail))); (refine wpQuiet_nil ?_); (intro _ hq'); (obtain ⟨⟨dq, osq⟩, hq''⟩ := hq'); (subst hq''))
      go_wp2_with fail
      go_roundw
      case rel => exact ⟨k + 1, by omega, by go_num, below_regrown _ _ _⟩
      case measure => simp [intOf] <;> omega
    · go_wp2_with fail
      go_ret
      exact ⟨rfl, hS⟩
end Go.Proofs.Ythbbakmohcjblaa
