/-
  Slices of bounds in memory, abstract states by value: the laws' own functions on them, by contract. No conditions but those that each theorem says.
-/
import Derived.Test.YtdpooiiacdfpkaaItv
import Derived.Test.YtdpooiiacdfpkaaQuietB
import Derived.LoopTactic
import Derived.Laws.MakeOwn
import Derived.Laws.OwnMore
import Derived.Laws.Entries
import Derived.Laws.Rows
namespace Go.Proofs.Ytdpooiiacdfpkaa
set_option linter.unusedSimpArgs false
set_option linter.unusedVariables false
open Go.ChangeShapes Go.WideShapes Go.ChangeAt Go.RowKit Go.Sort

theorem add_none (g o i : Nat) : (⟨g, o, none⟩ : Addr).add i = ⟨g, o + i, none⟩ := by
  unfold Addr.add
  split <;> simp_all
/-- A slice reads as a list of bounds. -/
def RdI (w : World) (a : Option Addr) (len : Nat) (z : List (Int × Int)) : Prop :=
  z.length = len ∧ (len = 0 ∨ ∃ x, a = some x ∧ ∀ i, i < len → w.cell? (x.add (i * 2)) = some (.int .i64 (z.getD i (0, 0)).1) ∧ w.cell? ⟨(x.add (i * 2)).block, (x.add (i * 2)).off + 1, none⟩ = some (.int .i64 (z.getD i (0, 0)).2))
theorem RdI.below {w w' : World} {a : Option Addr} {len : Nat} {z : List (Int × Int)} (h : RdI w a len z) (hb : Below w.heap.size w w') : RdI w' a len z := by
  obtain ⟨hl, h⟩ := h
  refine ⟨hl, ?_⟩
  rcases h with h | ⟨x, rfl, h⟩
  · exact .inl h
  · refine .inr ⟨x, rfl, fun i hi => ?_⟩
    obtain ⟨h1, h2⟩ := h i hi
    exact ⟨(hb.cell (World.block_lt_of_cell? w _ h1)).trans h1, (hb.cell (World.block_lt_of_cell? w _ h2)).trans h2⟩
theorem RdI.far {w : World} {g len : Nat} {z : List (Int × Int)} (h : RdI w (some ⟨g, 0, none⟩) len z) {p : Addr} (hp : g ≠ p.block) (u : Value) : RdI (w.setCell p u) (some ⟨g, 0, none⟩) len z := by
  obtain ⟨hl, h⟩ := h
  refine ⟨hl, ?_⟩
  rcases h with h | ⟨x, hx, h⟩
  · exact .inl h
  · refine .inr ⟨x, hx, fun i hi => ?_⟩
    obtain rfl := Option.some.inj hx
    obtain ⟨h1, h2⟩ := h i hi
    rw [add_none] at h1 h2 ⊢
    exact ⟨(World.cell?_of_block (w := w) (Below.heap_setCell w p u g hp)).trans h1, (World.cell?_of_block (w := w) (Below.heap_setCell w p u g hp)).trans h2⟩
theorem RdI.alloc {w : World} {a : Option Addr} {len : Nat} {z : List (Int × Int)} (h : RdI w a len z) (o : Obj) : RdI (w.alloc o) a len z := h.below ((Below.refl _ _).alloc (Nat.le_refl _) o)
/-- Block g is just these cells, none frozen. -/
def Blk (w : World) (g : Nat) (t : TypeId) (cs : Array Value) : Prop := w.heap[g]? = some (.cells cs t (0, 0))
section
variable {w w' : World} {g : Nat} {t : TypeId} {cs : Array Value}
theorem Blk.lt (h : Blk w g t cs) : g < w.heap.size := by
  rcases Nat.lt_or_ge g w.heap.size with hlt | hge
  · exact hlt
  · unfold Blk at h; rw [Array.getElem?_eq_none hge] at h; cases h
theorem Blk.cell (h : Blk w g t cs) (i : Nat) : w.cell? ⟨g, i, none⟩ = cs[i]? := cell_of_row w g i cs t (0, 0) h
theorem Blk.frozen (h : Blk w g t cs) (i : Nat) : w.frozen? ⟨g, i, none⟩ = false := by
  unfold Blk at h
  simp [World.frozen?, h]
theorem Blk.new (w : World) (t : TypeId) (cs : Array Value) : Blk (w.alloc (.cells cs t)) w.heap.size t cs := heap_alloc_new w _
theorem Blk.set_ (h : Blk w g t cs) (i : Nat) (u : Value) : Blk (w.setCell ⟨g, i, none⟩ u) g t (cs.setIfInBounds i u) := by
  unfold Blk at h ⊢
  simp [World.setCell, Array.getElem?_modify, h]
theorem Blk.below (h : Blk w g t cs) (hb : Below w.heap.size w w') : Blk w' g t cs := (hb.block g h.lt).trans h
end
theorem info_itv : (Try.prog.info? 27).map (fun i => (i.zero, i.size, i.bytes)) = some (some (.agg #[.int .i64 0, .int .i64 0]), 2, 16) := by kernel_rfl
theorem made_some (n j : Nat) (h : j < n * 2) : ∃ v, (madeCells (Value.agg #[.int .i64 0, .int .i64 0]).cells (n * 2))[j]? = some v := by
  rw [Array.getElem?_eq_getElem (by rw [size_madeCells]; exact h)]
  exact ⟨_, rfl⟩
/-- What the loop has written. -/
def Written (cs : Array Value) (len k : Nat) (z : List (Int × Int)) : Prop := cs.size = len * 2 ∧ ∀ i, i < k → cs[i * 2]? = some (.int .i64 (z.getD i (0, 0)).1) ∧ cs[i * 2 + 1]? = some (.int .i64 (z.getD i (0, 0)).2)
theorem Written.step {cs : Array Value} {len k : Nat} {z : List (Int × Int)} (h : Written cs len k z) (hk : k < len) : Written ((cs.setIfInBounds (k * 2) (.int .i64 (z.getD k (0, 0)).1)).setIfInBounds (k * 2 + 1) (.int .i64 (z.getD k (0, 0)).2)) len (k + 1) z := by
  obtain ⟨hs, h⟩ := h
  refine ⟨by simp [hs], fun i hi => ?_⟩
  by_cases e : i = k
  · subst e
    constructor
    · rw [Array.getElem?_setIfInBounds_ne (by omega), Array.getElem?_setIfInBounds_self_of_lt (by omega)]
    · rw [Array.getElem?_setIfInBounds_self_of_lt (by simp; omega)]
  · obtain ⟨h1, h2⟩ := h i (by omega)
    constructor
    · rw [Array.getElem?_setIfInBounds_ne (by omega), Array.getElem?_setIfInBounds_ne (by omega)]; exact h1
    · rw [Array.getElem?_setIfInBounds_ne (by omega), Array.getElem?_setIfInBounds_ne (by omega)]; exact h2
theorem Written.rd {w : World} {g : Nat} {t : TypeId} {cs : Array Value} {len : Nat} {z : List (Int × Int)} (h : Written cs len len z) (hb : Blk w g t cs) (hl : z.length = len) : RdI w (some ⟨g, 0, none⟩) len z :=
  ⟨hl, .inr ⟨_, rfl, fun i hi => by
    obtain ⟨h1, h2⟩ := h.2 i hi
    constructor
    · rw [add_none, Nat.zero_add, hb.cell, h1]
    · rw [add_none, Nat.zero_add, hb.cell, h2]⟩⟩
def SlicePost (w : World) (len : Nat) (z : List (Int × Int)) (e : Ending) (w' : World) : Prop := ∃ g, e = .returned (.slice (some ⟨g, 0, none⟩) len len) ∧ w.heap.size ≤ g ∧ RdI w' (some ⟨g, 0, none⟩) len z ∧ Below w.heap.size w w'
set_option maxRecDepth 100000 in
set_option maxHeartbeats 4000000 in
theorem toItvS_l (a : Option Addr) (len cap : Nat) (z : List (Int × Int)) (w : World) (hz : RdI w a len z) (hl : len ≤ 1048576) : Calls Try.prog 40 #[.slice a len cap] w (SlicePost w len z) := by
  obtain ⟨i0, hi, hz0, hz1, hz2⟩ := info_parts info_itv
  have hmk : ∀ W : World, (Instr.makeSlice 25 (.int .i64 (len : Int)) (.int .i64 (len : Int))).run Try.prog W = .ok (.slice (some ⟨W.heap.size, 0, none⟩) len len) (W.alloc (.cells (madeCells (Value.agg #[.int .i64 0, .int .i64 0]).cells (len * 2)) 27)) := fun W => by
    have h := run_make (P := Try.prog) W 25 27 i0 _ Try.underlying25 hi hz0 .i64 .i64 (len : Int) (len : Int) (by omega) (by omega) (by rw [hz2]; omega) (by omega)
    simp only [Int.toNat_natCast, hz1] at h
    exact h
  have hsz : z.length = len := hz.1
  have HZ := Lib.hid hz
  clear hz
  go_enter Try.func40, Try.ntmps40
  go_wp2_with fail
  clear hmk
  have hB0 : Blk (w.alloc (.cells (madeCells (Value.agg #[.int .i64 0, .int .i64 0]).cells (len * 2)) 27)) w.heap.size 27 (madeCells (Value.agg #[.int .i64 0, .int .i64 0]).cells (len * 2)) := Blk.new _ _ _
  go_loopw [4] (fun i wr => ∃ (k : Nat) (cs : Array Value), k ≤ len ∧ i = .int .i64 k ∧ Hid (Blk wr w.heap.size 27 cs ∧ Written cs len k z) ∧ Below w.heap.size w wr) (fun i _ => len - (intOf i).toNat)
  case atStart => exact ⟨0, _, by omega, rfl, Lib.hid ⟨hB0, size_madeCells _ _, fun i hi => by omega⟩, by go_grown⟩
  case round =>
    obtain ⟨k, cs, hk, rfl, hH, hS⟩ := hrel
    have hlk : (len : Int) ≤ 1048576 := by omega
    by_cases hlt : k < len
    · obtain ⟨hb0, hw0⟩ := hH.out
      have hzr := HZ.out.below hS
      obtain ⟨x, rfl, hx⟩ : ∃ x, a = some x ∧ ∀ i, i < len → wr.cell? (x.add (i * 2)) = some (.int .i64 (z.getD i (0, 0)).1) ∧ wr.cell? ⟨(x.add (i * 2)).block, (x.add (i * 2)).off + 1, none⟩ = some (.int .i64 (z.getD i (0, 0)).2) := by
        rcases hzr.2 with h | h
        · omega
        · exact h
      obtain ⟨hx0, hx1⟩ := hx k hlt
      clear hx hzr hH
      have hst := hw0.step hlt
      obtain ⟨⟨lo, hi'⟩, hq⟩ : ∃ q, q = z.getD k (0, 0) := ⟨_, rfl⟩
      rw [← hq] at hx0 hx1 hst
      simp only at hx0 hx1 hst
      clear hq
      have HB := Lib.hid (And.intro hb0 hw0)
      have HS := Lib.hid hst
      clear hb0 hw0 hst
      go_wp2_with fail
      refine (toItv_l _ _ _).mono ?_
      rintro e w1 ⟨rfl, hb1⟩
      have hB1 := HB.out.1.below hb1
      have hS1 : Below w.heap.size w w1 := below_on hS hb1
      have hcs := HB.out.2.1
      obtain ⟨v0, hv0⟩ : ∃ v, cs[k * 2]? = some v := ⟨_, Array.getElem?_eq_getElem (by omega)⟩
      obtain ⟨v1, hv1⟩ : ∃ v, cs[k * 2 + 1]? = some v := ⟨_, Array.getElem?_eq_getElem (by omega)⟩
      have g0 := (hB1.cell (k * 2)).trans hv0
      have g1 := (hB1.cell (k * 2 + 1)).trans hv1
      have f0 := hB1.frozen (k * 2)
      have f1 := hB1.frozen (k * 2 + 1)
      have HB1 := Lib.hid hB1
      clear hb1 hcs hv0 hv1 hB1
      go_wp2_with fail
      go_roundw
      case rel => exact ⟨k + 1, _, by omega, by go_num, Lib.hid ⟨(HB1.out.set_ (k * 2) _).set_ (k * 2 + 1) _, HS.out⟩, (hS1.setCell (Nat.le_refl _) _).setCell (Nat.le_refl _) _⟩
      case measure => simp [intOf] <;> omega
    · obtain rfl : k = len := by omega
      go_wp2_with fail
      go_ret
      unfold SlicePost
      exact ⟨_, rfl, Nat.le_refl _, hH.out.2.rd hH.out.1 hsz, hS⟩
def AbsPost (w : World) (on : Bool) (len : Nat) (lo hi : Int) (z : List (Int × Int)) (e : Ending) (w' : World) : Prop := ∃ g, e = .returned (.agg #[.bool on, .slice (some ⟨g, 0, none⟩) len len, .int .i64 lo, .int .i64 hi]) ∧ w.heap.size ≤ g ∧ RdI w' (some ⟨g, 0, none⟩) len z ∧ Below w.heap.size w w'
set_option maxRecDepth 100000 in
set_option maxHeartbeats 4000000 in
theorem toAbs_l (on : Bool) (a : Option Addr) (len cap : Nat) (lo hi : Int) (z : List (Int × Int)) (w : World) (hz : RdI w a len z) (hl : len ≤ 1048576) : Calls Try.prog 15 #[.agg #[.bool on, .slice a len cap, .int .i64 lo, .int .i64 hi]] w (AbsPost w on len lo hi z) := by
  have HZ := Lib.hid hz
  clear hz
  go_enter Try.func15, Try.ntmps15
  go_wp2_with fail
  refine (toItvS_l a len cap z _ (((HZ.out.alloc _).alloc _).alloc _) hl).mono ?_
  rintro e w1 ⟨g, rfl, hg, hr, hb⟩
  have c0 := hb.cell (p := ⟨w.heap.size, 2, none⟩) (by simp only [World.size_alloc]; omega)
  have c1 := hb.cell (p := ⟨w.heap.size, 3, none⟩) (by simp only [World.size_alloc]; omega)
  have d0 := hb.cell (p := ⟨w.heap.size + 1, 0, none⟩) (by simp only [World.size_alloc]; omega)
  have d1 := hb.cell (p := ⟨w.heap.size + 1, 1, none⟩) (by simp only [World.size_alloc]; omega)
  have d2 := hb.cell (p := ⟨w.heap.size + 1, 2, none⟩) (by simp only [World.size_alloc]; omega)
  have d3 := hb.cell (p := ⟨w.heap.size + 1, 3, none⟩) (by simp only [World.size_alloc]; omega)
  have e0 := hb.cell (p := ⟨w.heap.size + 1 + 1, 0, none⟩) (by simp only [World.size_alloc]; omega)
  have e1 := hb.cell (p := ⟨w.heap.size + 1 + 1, 1, none⟩) (by simp only [World.size_alloc]; omega)
  have e2 := hb.cell (p := ⟨w.heap.size + 1 + 1, 2, none⟩) (by simp only [World.size_alloc]; omega)
  have e3 := hb.cell (p := ⟨w.heap.size + 1 + 1, 3, none⟩) (by simp only [World.size_alloc]; omega)
  have p0 := hb.frozen (p := ⟨w.heap.size + 1, 0, none⟩) (by simp only [World.size_alloc]; omega)
  have p1 := hb.frozen (p := ⟨w.heap.size + 1, 1, none⟩) (by simp only [World.size_alloc]; omega)
  have p2 := hb.frozen (p := ⟨w.heap.size + 1, 2, none⟩) (by simp only [World.size_alloc]; omega)
  have p3 := hb.frozen (p := ⟨w.heap.size + 1, 3, none⟩) (by simp only [World.size_alloc]; omega)
  have q1 := hb.frozen (p := ⟨w.heap.size + 1 + 1, 1, none⟩) (by simp only [World.size_alloc]; omega)
  have q2 := hb.frozen (p := ⟨w.heap.size + 1 + 1, 2, none⟩) (by simp only [World.size_alloc]; omega)
  have q3 := hb.frozen (p := ⟨w.heap.size + 1 + 1, 3, none⟩) (by simp only [World.size_alloc]; omega)
  simp [go_sem] at c0 c1 d0 d1 d2 d3 e0 e1 e2 e3 p0 p1 p2 p3 q1 q2 q3
  have hB : Below w.heap.size w w1 := below_on (by go_grown) hb
  have hzz := hb.size
  simp only [World.size_alloc] at hzz hg
  have HR := Lib.hid hr
  clear hb hr
  go_wp2_with fail
  refine (toItv_l _ _ _).mono ?_
  rintro e w2 ⟨rfl, hb2⟩
  have l0 := blk d0
  have l1 := blk e0
  have xd0 : w2.cell? ⟨w.heap.size + 1, 0, none⟩ = some (.bool false) := (hb2.cell (p := ⟨w.heap.size + 1, 0, none⟩) (by simp only [World.size_setCell]; omega)).trans (by simp [go_sem, *])
  have xd1 : w2.cell? ⟨w.heap.size + 1, 1, none⟩ = some (.slice none 0 0) := (hb2.cell (p := ⟨w.heap.size + 1, 1, none⟩) (by simp only [World.size_setCell]; omega)).trans (by simp [go_sem, *])
  have xd2 : w2.cell? ⟨w.heap.size + 1, 2, none⟩ = some (.int .i64 0) := (hb2.cell (p := ⟨w.heap.size + 1, 2, none⟩) (by simp only [World.size_setCell]; omega)).trans (by simp [go_sem, *])
  have xd3 : w2.cell? ⟨w.heap.size + 1, 3, none⟩ = some (.int .i64 0) := (hb2.cell (p := ⟨w.heap.size + 1, 3, none⟩) (by simp only [World.size_setCell]; omega)).trans (by simp [go_sem, *])
  have xe0 : w2.cell? ⟨w.heap.size + 1 + 1, 0, none⟩ = some (.bool on) := (hb2.cell (p := ⟨w.heap.size + 1 + 1, 0, none⟩) (by simp only [World.size_setCell]; omega)).trans (by simp [go_sem, *])
  have xe1 : w2.cell? ⟨w.heap.size + 1 + 1, 1, none⟩ = some (.slice (some ⟨g, 0, none⟩) len len) := (hb2.cell (p := ⟨w.heap.size + 1 + 1, 1, none⟩) (by simp only [World.size_setCell]; omega)).trans (by simp [go_sem, *])
  have xe2 : w2.cell? ⟨w.heap.size + 1 + 1, 2, none⟩ = some (.int .i64 0) := (hb2.cell (p := ⟨w.heap.size + 1 + 1, 2, none⟩) (by simp only [World.size_setCell]; omega)).trans (by simp [go_sem, *])
  have xe3 : w2.cell? ⟨w.heap.size + 1 + 1, 3, none⟩ = some (.int .i64 0) := (hb2.cell (p := ⟨w.heap.size + 1 + 1, 3, none⟩) (by simp only [World.size_setCell]; omega)).trans (by simp [go_sem, *])
  have y0 : w2.frozen? ⟨w.heap.size + 1, 0, none⟩ = false := (hb2.frozen (p := ⟨w.heap.size + 1, 0, none⟩) (by simp only [World.size_setCell]; omega)).trans (by simp [go_sem, *])
  have y1 : w2.frozen? ⟨w.heap.size + 1, 1, none⟩ = false := (hb2.frozen (p := ⟨w.heap.size + 1, 1, none⟩) (by simp only [World.size_setCell]; omega)).trans (by simp [go_sem, *])
  have y2 : w2.frozen? ⟨w.heap.size + 1, 2, none⟩ = false := (hb2.frozen (p := ⟨w.heap.size + 1, 2, none⟩) (by simp only [World.size_setCell]; omega)).trans (by simp [go_sem, *])
  have y3 : w2.frozen? ⟨w.heap.size + 1, 3, none⟩ = false := (hb2.frozen (p := ⟨w.heap.size + 1, 3, none⟩) (by simp only [World.size_setCell]; omega)).trans (by simp [go_sem, *])
  have z2 : w2.frozen? ⟨w.heap.size + 1 + 1, 2, none⟩ = false := (hb2.frozen (p := ⟨w.heap.size + 1 + 1, 2, none⟩) (by simp only [World.size_setCell]; omega)).trans (by simp [go_sem, *])
  have z3 : w2.frozen? ⟨w.heap.size + 1 + 1, 3, none⟩ = false := (hb2.frozen (p := ⟨w.heap.size + 1 + 1, 3, none⟩) (by simp only [World.size_setCell]; omega)).trans (by simp [go_sem, *])
  have hne1 : ¬ (g = w.heap.size + 1 + 1) := by omega
  have hR1 : RdI (w1.setCell ⟨w.heap.size + 1 + 1, 1, none⟩ (.slice (some ⟨g, 0, none⟩) len len)) (some ⟨g, 0, none⟩) len z := HR.out.far (by omega) _
  have hR2 := Lib.hid (hR1.below hb2)
  have hB2 : Below w.heap.size w w2 := below_on (hB.setCell (by simp only []; omega) _) hb2
  clear hb2 hR1 c0 c1 d0 d1 d2 d3 e0 e1 e2 e3 p0 p1 p2 p3 q1 q2 q3 hne1
  go_wp2_with fail
  refine bodyPost_ret (by simp [results, Try.results15, go_sem, *]; try rfl) rfl ?_
  unfold AbsPost
  exact ⟨g, rfl, by omega, ((((((hR2.out.far (by simp only []; omega) _).far (by simp only []; omega) _).far (by simp only []; omega) _).far (by simp only []; omega) _).far (by simp only []; omega) _).far (by simp only []; omega) _), ((((((hB2.setCell (by simp only []; omega) _).setCell (by simp only []; omega) _).setCell (by simp only []; omega) _).setCell (by simp only []; omega) _).setCell (by simp only []; omega) _).setCell (by simp only []; omega) _)⟩
end Go.Proofs.Ytdpooiiacdfpkaa
