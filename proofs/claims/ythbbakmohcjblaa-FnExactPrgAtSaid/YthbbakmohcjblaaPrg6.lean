/-
  Programs in memory, on: the laws' own copying of slices of procs. No conditions but those that each theorem says.
-/
import Derived.Test.YthbbakmohcjblaaPrg5
namespace Go.Proofs.Ythbbakmohcjblaa
set_option linter.unusedSimpArgs false
set_option linter.unusedVariables false
open Go.ChangeShapes Go.WideShapes Go.ChangeAt Go.RowKit Go.Sort

theorem info_prc : (Try.prog.info? 84).map (fun i => (i.zero, i.size, i.bytes)) = Option.some (Option.some (.agg #[.int .i64 0, .int .i64 0, .slice none 0 0]), 3, 40) := by kernel_rfl
/-- What the loop has written: the procs' cells, and each proc's own code beyond block G0. -/
def InvP (G0 : Nat) (P : Nat → Prc) (F : Nat → Nat → Nat → Int) (len : Nat) (wr : World) (cs : Array Value) (k : Nat) : Prop := cs.size = len * 3 ∧ ∀ i, i < k → ∃ g : Nat, cs[i * 3]? = Option.some (.int .i64 (P i).lo) ∧ cs[i * 3 + 1]? = Option.some (.int .i64 (P i).hi) ∧ cs[i * 3 + 2]? = Option.some (.slice (Option.some ⟨g, 0, none⟩) (P i).n (P i).n) ∧ G0 < g ∧ RdC wr (Option.some ⟨g, 0, none⟩) (P i).n (F i)
theorem InvP.step {G0 : Nat} {P : Nat → Prc} {F : Nat → Nat → Nat → Int} {len k g : Nat} {wr w1 : World} {cs : Array Value} (h : InvP G0 P F len wr cs k) (hk : k < len) (hb : Below wr.heap.size wr w1) (hg : G0 < g) (hr : RdC w1 (Option.some ⟨g, 0, none⟩) (P k).n (F k)) (u0 u1 u2 : Value) :
    InvP G0 P F len (((w1.setCell ⟨G0, k * 3, none⟩ u0).setCell ⟨G0, k * 3 + 1, none⟩ u1).setCell ⟨G0, k * 3 + 2, none⟩ u2) (((cs.setIfInBounds (k * 3) (.int .i64 (P k).lo)).setIfInBounds (k * 3 + 1) (.int .i64 (P k).hi)).setIfInBounds (k * 3 + 2) (.slice (Option.some ⟨g, 0, none⟩) (P k).n (P k).n)) (k + 1) := by
  obtain ⟨hs, h⟩ := h
  refine ⟨by simp [hs], fun i hi => ?_⟩
  by_cases e : i = k
  · subst e
    refine ⟨g, ?_, ?_, ?_, hg, ((hr.far (by simp only []; omega) _).far (by simp only []; omega) _).far (by simp only []; omega) _⟩
    · rw [Array.getElem?_setIfInBounds_ne (by omega), Array.getElem?_setIfInBounds_ne (by omega), Array.getElem?_setIfInBounds_self_of_lt (by omega)]
    · rw [Array.getElem?_setIfInBounds_ne (by omega), Array.getElem?_setIfInBounds_self_of_lt (by simp only [Array.size_setIfInBounds]; omega)]
    · rw [Array.getElem?_setIfInBounds_self_of_lt (by simp only [Array.size_setIfInBounds]; omega)]
  · obtain ⟨gi, h0, h1, h2, h3, h4⟩ := h i (by omega)
    refine ⟨gi, ?_, ?_, ?_, h3, (((h4.below hb).far (by simp only []; omega) _).far (by simp only []; omega) _).far (by simp only []; omega) _⟩
    · rw [Array.getElem?_setIfInBounds_ne (by omega), Array.getElem?_setIfInBounds_ne (by omega), Array.getElem?_setIfInBounds_ne (by omega)]; exact h0
    · rw [Array.getElem?_setIfInBounds_ne (by omega), Array.getElem?_setIfInBounds_ne (by omega), Array.getElem?_setIfInBounds_ne (by omega)]; exact h1
    · rw [Array.getElem?_setIfInBounds_ne (by omega), Array.getElem?_setIfInBounds_ne (by omega), Array.getElem?_setIfInBounds_ne (by omega)]; exact h2
/-- A slice of procs reads as procs P with codes F, wherever the codes lie. -/
def RdQ (G : Nat) (w : World) (a : Option Addr) (len : Nat) (P : Nat → Prc) (F : Nat → Nat → Nat → Int) : Prop := ∃ P', RdP w a len P' ∧ ∀ i, i < len → (P' i).lo = (P i).lo ∧ (P' i).hi = (P i).hi ∧ (P' i).n = (P i).n ∧ RdC w (P' i).b (P' i).n (F i) ∧ ∃ gi, (P' i).b = Option.some ⟨gi, 0, none⟩ ∧ G ≤ gi
theorem RdQ.below {G : Nat} {w w' : World} {a : Option Addr} {len : Nat} {P : Nat → Prc} {F : Nat → Nat → Nat → Int} (h : RdQ G w a len P F) (hb : Below w.heap.size w w') : RdQ G w' a len P F := by
  obtain ⟨P', h1, h2⟩ := h
  exact ⟨P', h1.below hb, fun i hi => ⟨(h2 i hi).1, (h2 i hi).2.1, (h2 i hi).2.2.1, (h2 i hi).2.2.2.1.below hb, (h2 i hi).2.2.2.2⟩⟩
theorem InvP.rd {G0 : Nat} {t : TypeId} {P : Nat → Prc} {F : Nat → Nat → Nat → Int} {len : Nat} {wr : World} {cs : Array Value} (h : InvP G0 P F len wr cs len) (hb : Blk wr G0 t cs) : RdQ G0 wr (Option.some ⟨G0, 0, none⟩) len P F := by
  have hq : ∀ i : Nat, ∃ g : Nat, i < len → cs[i * 3]? = Option.some (.int .i64 (P i).lo) ∧ cs[i * 3 + 1]? = Option.some (.int .i64 (P i).hi) ∧ cs[i * 3 + 2]? = Option.some (.slice (Option.some ⟨g, 0, none⟩) (P i).n (P i).n) ∧ RdC wr (Option.some ⟨g, 0, none⟩) (P i).n (F i) ∧ G0 ≤ g := fun i => by
    by_cases hi : i < len
    · obtain ⟨g, h0, h1, h2, h3, h4⟩ := h.2 i hi
      exact ⟨g, fun _ => ⟨h0, h1, h2, h4, Nat.le_of_lt h3⟩⟩
    · exact ⟨0, fun hh => absurd hh hi⟩
  obtain ⟨g, hg⟩ := Classical.axiomOfChoice hq
  refine ⟨fun i => ⟨(P i).lo, (P i).hi, Option.some ⟨g i, 0, none⟩, (P i).n, (P i).n⟩, .inr ⟨_, rfl, fun i hi => ?_⟩, fun i hi => ⟨rfl, rfl, rfl, (hg i hi).2.2.2.1, g i, rfl, (hg i hi).2.2.2.2⟩⟩
  obtain ⟨h0, h1, h2, _⟩ := hg i hi
  rw [add_none, Nat.zero_add]
  exact ⟨(hb.cell _).trans h0, (hb.cell _).trans h1, (hb.cell _).trans h2⟩
def SliceP (w : World) (len : Nat) (P : Nat → Prc) (F : Nat → Nat → Nat → Int) (e : Ending) (w' : World) : Prop := ∃ g, e = .returned (.slice (Option.some ⟨g, 0, none⟩) len len) ∧ w.heap.size ≤ g ∧ RdQ w.heap.size w' (Option.some ⟨g, 0, none⟩) len P F ∧ Below w.heap.size w w'
set_option maxRecDepth 100000 in
set_option maxHeartbeats 8000000 in
theorem toPrcS_l (a : Option Addr) (len cap : Nat) (P : Nat → Prc) (F : Nat → Nat → Nat → Int) (w : World) (hp : RdP w a len P) (hc : ∀ i, i < len → RdC w (P i).b (P i).n (F i)) (hl : len ≤ 1048576) (hn : ∀ i, i < len → (P i).n ≤ 1048576) : Calls Try.prog 45 #[.slice a len cap] w (SliceP w len P F) := by
  obtain ⟨i0, hi, hz0, hz1, hz2⟩ := info_parts info_prc
  have hmk : ∀ W : World, (Instr.makeSlice 51 (.int .i64 (len : Int)) (.int .i64 (len : Int))).run Try.prog W = .ok (.slice (Option.some ⟨W.heap.size, 0, none⟩) len len) (W.alloc (.cells (madeCells (#[.int .i64 0, .int .i64 0, .slice none 0 0]) (len * 3)) 84)) := fun W => by
    have h := run_make (P := Try.prog) W 51 84 i0 _ Try.underlying51 hi hz0 .i64 .i64 (len : Int) (len : Int) (by omega) (by omega) (by rw [hz2]; omega) (by omega)
    simp only [Int.toNat_natCast, hz1] at h
    exact h
  have HP := Lib.hid hp
  have HC := Lib.hid hc
  have HN := Lib.hid hn
  clear hp hc hn
  go_enter Try.func45, Try.ntmps45
  go_wp2_with fail
  clear hmk
  have hB0 : Blk (w.alloc (.cells (madeCells (#[.int .i64 0, .int .i64 0, .slice none 0 0]) (len * 3)) 84)) w.heap.size 84 (madeCells (#[.int .i64 0, .int .i64 0, .slice none 0 0]) (len * 3)) := Blk.new _ _ _
  go_loopw [4] (fun i wr => ∃ (k : Nat) (cs : Array Value), k ≤ len ∧ i = .int .i64 k ∧ Hid (Blk wr w.heap.size 84 cs ∧ InvP w.heap.size P F len wr cs k) ∧ Below w.heap.size w wr) (fun i _ => len - (intOf i).toNat)
  case atStart => exact ⟨0, _, by omega, rfl, Lib.hid ⟨hB0, size_madeCells _ _, fun i hi => by omega⟩, by go_grown⟩
  case round =>
    obtain ⟨k, cs, hk, rfl, hH, hS⟩ := hrel
    have hlk : (len : Int) ≤ 1048576 := by omega
    by_cases hlt : k < len
    · obtain ⟨hb0, hw0⟩ := hH.out
      obtain ⟨x, rfl, hx⟩ := (HP.out.below hS).some (by omega)
      obtain ⟨e0, e1, e2⟩ := hx k hlt
      have hck := (HC.out k hlt).below hS
      have hnk := HN.out k hlt
      clear hx hH
      have hcs := hw0.1
      have hlt0 := hb0.lt
      have HB := Lib.hid (And.intro hb0 hw0)
      obtain ⟨⟨pl, ph, pb, pn, pc⟩, hq⟩ : ∃ q, q = P k := ⟨_, rfl⟩
      rw [← hq] at e0 e1 e2 hck hnk
      simp only at e0 e1 e2 hck hnk
      have HQ := Lib.hid hq
      have HCK := Lib.hid hck
      clear hb0 hw0 hq hck
      go_wp2_with fail
      refine (toPrc_l _ _ _ _ _ (F k) _ HCK.out hnk).mono ?_
      rintro e w1 ⟨g, rfl, hg, hr, hb1⟩
      have hB1 := HB.out.1.below hb1
      have hS1 : Below w.heap.size w w1 := below_on hS hb1
      have hI := fun u0 u1 u2 => HB.out.2.step hlt hb1 (Nat.lt_of_lt_of_le hlt0 hg) (by rw [← HQ.out]; exact hr) u0 u1 u2
      rw [← HQ.out] at hI
      simp only at hI
      have HI := Lib.hid hI
      obtain ⟨v0, hv0⟩ : ∃ v, cs[k * 3]? = Option.some v := ⟨_, Array.getElem?_eq_getElem (by omega)⟩
      obtain ⟨v1, hv1⟩ : ∃ v, cs[k * 3 + 1]? = Option.some v := ⟨_, Array.getElem?_eq_getElem (by omega)⟩
      obtain ⟨v2, hv2⟩ : ∃ v, cs[k * 3 + 2]? = Option.some v := ⟨_, Array.getElem?_eq_getElem (by omega)⟩
      have g0 := (hB1.cell (k * 3)).trans hv0
      have g1 := (hB1.cell (k * 3 + 1)).trans hv1
      have g2 := (hB1.cell (k * 3 + 2)).trans hv2
      have f0 := hB1.frozen (k * 3)
      have f1 := hB1.frozen (k * 3 + 1)
      have f2 := hB1.frozen (k * 3 + 2)
      have HB1 := Lib.hid hB1
      clear hb1 hcs hv0 hv1 hv2 hB1 hI hr hg hlt0
      go_wp2_with fail
      go_roundw
      case rel => exact ⟨k + 1, _, by omega, by go_num, Lib.hid ⟨((HB1.out.set_ (k * 3) _).set_ (k * 3 + 1) _).set_ (k * 3 + 2) _, HI.out _ _ _⟩, ((hS1.setCell (Nat.le_refl _) _).setCell (Nat.le_refl _) _).setCell (Nat.le_refl _) _⟩
      case measure => simp [intOf] <;> omega
    · obtain rfl : k = len := by omega
      go_wp2_with fail
      go_ret
      unfold SliceP
      exact ⟨_, rfl, Nat.le_refl _, hH.out.2.rd hH.out.1, hS⟩
end Go.Proofs.Ythbbakmohcjblaa
