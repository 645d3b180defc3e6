/-
  Slices of bounds in a block of their own, and what the laws mark in them. No conditions but those that each theorem says.
-/
import Derived.Test.YtdpooiiacdfpkaaAbsL
import Derived.Test.YtdpooiiacdfpkaaInv
namespace Go.Proofs.Ytdpooiiacdfpkaa
set_option linter.unusedSimpArgs false
set_option linter.unusedVariables false
open Go.ChangeShapes Go.WideShapes Go.ChangeAt Go.RowKit Go.Sort

/-- Block g is unfrozen and begins with these bounds. -/
def OwnB (w : World) (g len : Nat) (z : List (Int × Int)) : Prop := ∃ cs, Blk w g 27 cs ∧ z.length = len ∧ len * 2 ≤ cs.size ∧ ∀ i, i < len → cs[i * 2]? = some (.int .i64 (z.getD i (0, 0)).1) ∧ cs[i * 2 + 1]? = some (.int .i64 (z.getD i (0, 0)).2)
theorem OwnB.rd {w : World} {g len : Nat} {z : List (Int × Int)} (h : OwnB w g len z) : RdI w (some ⟨g, 0, none⟩) len z := by
  obtain ⟨cs, hb, hl, _, hc⟩ := h
  refine ⟨hl, .inr ⟨_, rfl, fun i hi => ?_⟩⟩
  obtain ⟨h1, h2⟩ := hc i hi
  constructor
  · rw [add_none, Nat.zero_add, hb.cell, h1]
  · rw [add_none, Nat.zero_add, hb.cell, h2]
theorem OwnB.below {w w' : World} {g len : Nat} {z : List (Int × Int)} (h : OwnB w g len z) (hb : Below w.heap.size w w') : OwnB w' g len z := by
  obtain ⟨cs, h1, h2⟩ := h
  exact ⟨cs, h1.below hb, h2⟩
theorem OwnB.alloc {w : World} {g len : Nat} {z : List (Int × Int)} (h : OwnB w g len z) (o : Obj) : OwnB (w.alloc o) g len z := h.below ((Below.refl _ _).alloc (Nat.le_refl _) o)
theorem OwnB.far {w : World} {g len : Nat} {z : List (Int × Int)} (h : OwnB w g len z) {p : Addr} (hp : g ≠ p.block) (u : Value) : OwnB (w.setCell p u) g len z := by
  obtain ⟨cs, h1, h2⟩ := h
  exact ⟨cs, h1.far hp u, h2⟩
theorem OwnB.lt {w : World} {g len : Nat} {z : List (Int × Int)} (h : OwnB w g len z) : g < w.heap.size := by
  obtain ⟨cs, h1, h2⟩ := h
  exact h1.lt
theorem Blk.but {w w' : World} {g b : Nat} {t : TypeId} {cs : Array Value} (h : Blk w g t cs) (hb : But b w w') (hn : g ≠ b) : Blk w' g t cs := (hb.block g h.lt hn).trans h
theorem OwnB.but {w w' : World} {g b len : Nat} {z : List (Int × Int)} (h : OwnB w g len z) (hb : But b w w') (hn : g ≠ b) : OwnB w' g len z := by
  obtain ⟨cs, h1, h2⟩ := h
  exact ⟨cs, h1.but hb hn, h2⟩
def SliceO (w : World) (len : Nat) (z : List (Int × Int)) (e : Ending) (w' : World) : Prop := ∃ g, e = .returned (.slice (some ⟨g, 0, none⟩) len len) ∧ w.heap.size ≤ g ∧ OwnB w' g len z ∧ Below w.heap.size w w'
set_option maxRecDepth 100000 in
set_option maxHeartbeats 4000000 in
theorem toItvS_o (a : Option Addr) (len cap : Nat) (z : List (Int × Int)) (w : World) (hz : RdI w a len z) (hl : len ≤ 1048576) : Calls Try.prog 40 #[.slice a len cap] w (SliceO w len z) := by
  obtain ⟨i0, hi, hz0, hz1, hz2⟩ := info_parts info_itv
  have hmk : ∀ W : World, (Instr.makeSlice 25 (.int .i64 (len : Int)) (.int .i64 (len : Int))).run Try.prog W = .ok (.slice (some ⟨W.heap.size, 0, none⟩) len len) (W.alloc (.cells (madeCells (Value.agg #[.int .i64 0, .int .i64 0]).cells (len * 2)) 27)) := fun W => by
    have h := run_make (P := Try.prog) W 25 27 i0 _ Try.underlying25 hi hz0 .i64 .i64 (len : Int) (len : Int) (by omega) (by omega) (by rw [hz2]; omega) (by omega)
    simp only [Int.toNat_natCast, hz1] at h
    exact h
  have hsz : z.length = len := hz.1
  have HZ := Lib.hid hz
  clear hz
  go_enter Try.func40, Try.ntmps40
  go_wp2_with fail
  clear hmk
  have hB0 : Blk (w.alloc (.cells (madeCells (Value.agg #[.int .i64 0, .int .i64 0]).cells (len * 2)) 27)) w.heap.size 27 (madeCells (Value.agg #[.int .i64 0, .int .i64 0]).cells (len * 2)) := Blk.new _ _ _
  go_loopw [4] (fun i wr => ∃ (k : Nat) (cs : Array Value), k ≤ len ∧ i = .int .i64 k ∧ Hid (Blk wr w.heap.size 27 cs ∧ Written cs len k z) ∧ Below w.heap.size w wr) (fun i _ => len - (intOf i).toNat)
  case atStart => exact ⟨0, _, by omega, rfl, Lib.hid ⟨hB0, size_madeCells _ _, fun i hi => by omega⟩, by go_grown⟩
  case round =>
    obtain ⟨k, cs, hk, rfl, hH, hS⟩ := hrel
    have hlk : (len : Int) ≤ 1048576 := by omega
    by_cases hlt : k < len
    · obtain ⟨hb0, hw0⟩ := hH.out
      have hzr := HZ.out.below hS
      obtain ⟨x, rfl, hx⟩ : ∃ x, a = some x ∧ ∀ i, i < len → wr.cell? (x.add (i * 2)) = some (.int .i64 (z.getD i (0, 0)).1) ∧ wr.cell? ⟨(x.add (i * 2)).block, (x.add (i * 2)).off + 1, none⟩ = some (.int .i64 (z.getD i (0, 0)).2) := by
        rcases hzr.2 with h | h
        · omega
        · exact h
      obtain ⟨hx0, hx1⟩ := hx k hlt
      clear hx hzr hH
      have hst := hw0.step hlt
      obtain ⟨⟨lo, hi'⟩, hq⟩ : ∃ q, q = z.getD k (0, 0) := ⟨_, rfl⟩
      rw [← hq] at hx0 hx1 hst
      simp only at hx0 hx1 hst
      clear hq
      have HB := Lib.hid (And.intro hb0 hw0)
      have HS := Lib.hid hst
      clear hb0 hw0 hst
      go_wp2_with fail
      refine (toItv_l _ _ _).mono ?_
      rintro e w1 ⟨rfl, hb1⟩
      have hB1 := HB.out.1.below hb1
      have hS1 : Below w.heap.size w w1 := below_on hS hb1
      have hcs := HB.out.2.1
      obtain ⟨v0, hv0⟩ : ∃ v, cs[k * 2]? = some v := ⟨_, Array.getElem?_eq_getElem (by omega)⟩
      obtain ⟨v1, hv1⟩ : ∃ v, cs[k * 2 + 1]? = some v := ⟨_, Array.getElem?_eq_getElem (by omega)⟩
      have g0 := (hB1.cell (k * 2)).trans hv0
      have g1 := (hB1.cell (k * 2 + 1)).trans hv1
      have f0 := hB1.frozen (k * 2)
      have f1 := hB1.frozen (k * 2 + 1)
      have HB1 := Lib.hid hB1
      clear hb1 hcs hv0 hv1 hB1
      go_wp2_with fail
      go_roundw
      case rel => exact ⟨k + 1, _, by omega, by go_num, Lib.hid ⟨(HB1.out.set_ (k * 2) _).set_ (k * 2 + 1) _, HS.out⟩, (hS1.setCell (Nat.le_refl _) _).setCell (Nat.le_refl _) _⟩
      case measure => simp [intOf] <;> omega
    · obtain rfl : k = len := by omega
      go_wp2_with fail
      go_ret
      unfold SliceO
      exact ⟨_, rfl, Nat.le_refl _, ⟨_, hH.out.1, hsz, Nat.le_of_eq hH.out.2.1.symm, hH.out.2.2⟩, hS⟩
def AbsO (w : World) (on : Bool) (len : Nat) (lo hi : Int) (z : List (Int × Int)) (e : Ending) (w' : World) : Prop := ∃ g, e = .returned (.agg #[.bool on, .slice (some ⟨g, 0, none⟩) len len, .int .i64 lo, .int .i64 hi]) ∧ w.heap.size ≤ g ∧ OwnB w' g len z ∧ Below w.heap.size w w'
set_option maxRecDepth 100000 in
set_option maxHeartbeats 4000000 in
theorem toAbs_o (on : Bool) (a : Option Addr) (len cap : Nat) (lo hi : Int) (z : List (Int × Int)) (w : World) (hz : RdI w a len z) (hl : len ≤ 1048576) : Calls Try.prog 15 #[.agg #[.bool on, .slice a len cap, .int .i64 lo, .int .i64 hi]] w (AbsO w on len lo hi z) := by
  have HZ := Lib.hid hz
  clear hz
  go_enter Try.func15, Try.ntmps15
  go_wp2_with fail
  refine (toItvS_o a len cap z _ (((HZ.out.alloc _).alloc _).alloc _) hl).mono ?_
  rintro e w1 ⟨g, rfl, hg, hr, hb⟩
  have c0 := hb.cell (p := ⟨w.heap.size, 2, none⟩) (by simp only [World.size_alloc]; omega)
  have c1 := hb.cell (p := ⟨w.heap.size, 3, none⟩) (by simp only [World.size_alloc]; omega)
  have d0 := hb.cell (p := ⟨w.heap.size + 1, 0, none⟩) (by simp only [World.size_alloc]; omega)
  have d1 := hb.cell (p := ⟨w.heap.size + 1, 1, none⟩) (by simp only [World.size_alloc]; omega)
  have d2 := hb.cell (p := ⟨w.heap.size + 1, 2, none⟩) (by simp only [World.size_alloc]; omega)
  have d3 := hb.cell (p := ⟨w.heap.size + 1, 3, none⟩) (by simp only [World.size_alloc]; omega)
  have e0 := hb.cell (p := ⟨w.heap.size + 1 + 1, 0, none⟩) (by simp only [World.size_alloc]; omega)
  have e1 := hb.cell (p := ⟨w.heap.size + 1 + 1, 1, none⟩) (by simp only [World.size_alloc]; omega)
  have e2 := hb.cell (p := ⟨w.heap.size + 1 + 1, 2, none⟩) (by simp only [World.size_alloc]; omega)
  have e3 := hb.cell (p := ⟨w.heap.size + 1 + 1, 3, none⟩) (by simp only [World.size_alloc]; omega)
  have p0 := hb.frozen (p := ⟨w.heap.size + 1, 0, none⟩) (by simp only [World.size_alloc]; omega)
  have p1 := hb.frozen (p := ⟨w.heap.size + 1, 1, none⟩) (by simp only [World.size_alloc]; omega)
  have p2 := hb.frozen (p := ⟨w.heap.size + 1, 2, none⟩) (by simp only [World.size_alloc]; omega)
  have p3 := hb.frozen (p := ⟨w.heap.size + 1, 3, none⟩) (by simp only [World.size_alloc]; omega)
  have q1 := hb.frozen (p := ⟨w.heap.size + 1 + 1, 1, none⟩) (by simp only [World.size_alloc]; omega)
  have q2 := hb.frozen (p := ⟨w.heap.size + 1 + 1, 2, none⟩) (by simp only [World.size_alloc]; omega)
  have q3 := hb.frozen (p := ⟨w.heap.size + 1 + 1, 3, none⟩) (by simp only [World.size_alloc]; omega)
  simp [go_sem] at c0 c1 d0 d1 d2 d3 e0 e1 e2 e3 p0 p1 p2 p3 q1 q2 q3
  have hB : Below w.heap.size w w1 := below_on (by go_grown) hb
  have hzz := hb.size
  simp only [World.size_alloc] at hzz hg
  have HR := Lib.hid hr
  clear hb hr
  go_wp2_with fail
  refine (toItv_l _ _ _).mono ?_
  rintro e w2 ⟨rfl, hb2⟩
  have l0 := blk d0
  have l1 := blk e0
  have xd0 : w2.cell? ⟨w.heap.size + 1, 0, none⟩ = some (.bool false) := (hb2.cell (p := ⟨w.heap.size + 1, 0, none⟩) (by simp only [World.size_setCell]; omega)).trans (by simp [go_sem, *])
  have xd1 : w2.cell? ⟨w.heap.size + 1, 1, none⟩ = some (.slice none 0 0) := (hb2.cell (p := ⟨w.heap.size + 1, 1, none⟩) (by simp only [World.size_setCell]; omega)).trans (by simp [go_sem, *])
  have xd2 : w2.cell? ⟨w.heap.size + 1, 2, none⟩ = some (.int .i64 0) := (hb2.cell (p := ⟨w.heap.size + 1, 2, none⟩) (by simp only [World.size_setCell]; omega)).trans (by simp [go_sem, *])
  have xd3 : w2.cell? ⟨w.heap.size + 1, 3, none⟩ = some (.int .i64 0) := (hb2.cell (p := ⟨w.heap.size + 1, 3, none⟩) (by simp only [World.size_setCell]; omega)).trans (by simp [go_sem, *])
  have xe0 : w2.cell? ⟨w.heap.size + 1 + 1, 0, none⟩ = some (.bool on) := (hb2.cell (p := ⟨w.heap.size + 1 + 1, 0, none⟩) (by simp only [World.size_setCell]; omega)).trans (by simp [go_sem, *])
  have xe1 : w2.cell? ⟨w.heap.size + 1 + 1, 1, none⟩ = some (.slice (some ⟨g, 0, none⟩) len len) := (hb2.cell (p := ⟨w.heap.size + 1 + 1, 1, none⟩) (by simp only [World.size_setCell]; omega)).trans (by simp [go_sem, *])
  have xe2 : w2.cell? ⟨w.heap.size + 1 + 1, 2, none⟩ = some (.int .i64 0) := (hb2.cell (p := ⟨w.heap.size + 1 + 1, 2, none⟩) (by simp only [World.size_setCell]; omega)).trans (by simp [go_sem, *])
  have xe3 : w2.cell? ⟨w.heap.size + 1 + 1, 3, none⟩ = some (.int .i64 0) := (hb2.cell (p := ⟨w.heap.size + 1 + 1, 3, none⟩) (by simp only [World.size_setCell]; omega)).trans (by simp [go_sem, *])
  have y0 : w2.frozen? ⟨w.heap.size + 1, 0, none⟩ = false := (hb2.frozen (p := ⟨w.heap.size + 1, 0, none⟩) (by simp only [World.size_setCell]; omega)).trans (by simp [go_sem, *])
  have y1 : w2.frozen? ⟨w.heap.size + 1, 1, none⟩ = false := (hb2.frozen (p := ⟨w.heap.size + 1, 1, none⟩) (by simp only [World.size_setCell]; omega)).trans (by simp [go_sem, *])
  have y2 : w2.frozen? ⟨w.heap.size + 1, 2, none⟩ = false := (hb2.frozen (p := ⟨w.heap.size + 1, 2, none⟩) (by simp only [World.size_setCell]; omega)).trans (by simp [go_sem, *])
  have y3 : w2.frozen? ⟨w.heap.size + 1, 3, none⟩ = false := (hb2.frozen (p := ⟨w.heap.size + 1, 3, none⟩) (by simp only [World.size_setCell]; omega)).trans (by simp [go_sem, *])
  have z2 : w2.frozen? ⟨w.heap.size + 1 + 1, 2, none⟩ = false := (hb2.frozen (p := ⟨w.heap.size + 1 + 1, 2, none⟩) (by simp only [World.size_setCell]; omega)).trans (by simp [go_sem, *])
  have z3 : w2.frozen? ⟨w.heap.size + 1 + 1, 3, none⟩ = false := (hb2.frozen (p := ⟨w.heap.size + 1 + 1, 3, none⟩) (by simp only [World.size_setCell]; omega)).trans (by simp [go_sem, *])
  have hne1 : ¬ (g = w.heap.size + 1 + 1) := by omega
  have hR1 : OwnB (w1.setCell ⟨w.heap.size + 1 + 1, 1, none⟩ (.slice (some ⟨g, 0, none⟩) len len)) g len z := HR.out.far (by omega) _
  have hR2 := Lib.hid (hR1.below hb2)
  have hB2 : Below w.heap.size w w2 := below_on (hB.setCell (by simp only []; omega) _) hb2
  clear hb2 hR1 c0 c1 d0 d1 d2 d3 e0 e1 e2 e3 p0 p1 p2 p3 q1 q2 q3 hne1
  go_wp2_with fail
  refine bodyPost_ret (by simp [results, Try.results15, go_sem, *]; try rfl) rfl ?_
  unfold AbsO
  exact ⟨g, rfl, by omega, ((((((hR2.out.far (by simp only []; omega) _).far (by simp only []; omega) _).far (by simp only []; omega) _).far (by simp only []; omega) _).far (by simp only []; omega) _).far (by simp only []; omega) _), ((((((hB2.setCell (by simp only []; omega) _).setCell (by simp only []; omega) _).setCell (by simp only []; omega) _).setCell (by simp only []; omega) _).setCell (by simp only []; omega) _).setCell (by simp only []; omega) _)⟩
/-- What is marked from k on. -/
def marks (k : Int) (len : Nat) : List (Int × Int) := (List.range len).map fun (i : Nat) => (k + 2 * (i : Int), k + 2 * (i : Int) + 1)
theorem marks_len (k : Int) (len : Nat) : (marks k len).length = len := by simp [marks]
theorem marks_get (k : Int) {len i : Nat} (h : i < len) : (marks k len).getD i (0, 0) = (k + 2 * (i : Int), k + 2 * (i : Int) + 1) := by
  simp [marks, List.getD_eq_getElem?_getD, h]
set_option maxRecDepth 100000 in
set_option maxHeartbeats 4000000 in
theorem markS_o (g len cap : Nat) (k0 : Int) (z : List (Int × Int)) (w : World) (hz : OwnB w g len z) (hl : len ≤ 1048576) (h0 : 0 ≤ k0) (h1 : k0 ≤ 1000000000) : Calls Try.prog 46 #[.slice (some ⟨g, 0, none⟩) len cap, .int .i64 k0] w fun e w' => e = .returned (.int .i64 (k0 + 2 * len)) ∧ OwnB w' g len (marks k0 len) ∧ But g w w' := by
  obtain ⟨cs0, hb0, _, hs0, _⟩ := hz
  have HB0 := Lib.hid hb0
  clear hb0
  go_enter Try.func46, Try.ntmps46
  go_wp2_with fail
  go_loopw [1, 5] (fun q i wr => ∃ (k : Nat) (cs : Array Value), k ≤ len ∧ i = .int .i64 k ∧ q = .int .i64 (k0 + 2 * k) ∧ Hid (Blk wr g 27 cs) ∧ len * 2 ≤ cs.size ∧ Hid (∀ j, j < k → cs[j * 2]? = some (.int .i64 (k0 + 2 * (j : Int))) ∧ cs[j * 2 + 1]? = some (.int .i64 (k0 + 2 * (j : Int) + 1))) ∧ But g w wr) (fun _ i _ => len - (intOf i).toNat)
  case atStart => exact ⟨0, _, by omega, rfl, by simp, HB0, hs0, Lib.hid fun i hi => by omega, But.refl _ _⟩
  case round =>
    obtain ⟨k, cs, hk, rfl, rfl, hH, hsz, hW, hS⟩ := hrel
    have hlk : (len : Int) ≤ 1048576 := by omega
    by_cases hlt : k < len
    · obtain ⟨v0, hv0⟩ : ∃ v, cs[k * 2]? = some v := ⟨_, Array.getElem?_eq_getElem (by omega)⟩
      obtain ⟨v1, hv1⟩ : ∃ v, cs[k * 2 + 1]? = some v := ⟨_, Array.getElem?_eq_getElem (by omega)⟩
      have g0 := (hH.out.cell (k * 2)).trans hv0
      have g1 := (hH.out.cell (k * 2 + 1)).trans hv1
      have f0 := hH.out.frozen (k * 2)
      have f1 := hH.out.frozen (k * 2 + 1)
      clear hv0 hv1
      go_wp2_with fail
      go_roundw
      case rel =>
        refine ⟨k + 1, _, by omega, by go_num, by go_num, Lib.hid ((hH.out.set_ (k * 2) _).set_ (k * 2 + 1) _), by simpa using hsz, Lib.hid fun j hj => ?_, (hS.setCell (.inl rfl) _).setCell (.inl rfl) _⟩
        by_cases e : j = k
        · subst e
          constructor
          · rw [Array.getElem?_setIfInBounds_ne (by omega), Array.getElem?_setIfInBounds_self_of_lt (by omega)]
          · rw [Array.getElem?_setIfInBounds_self_of_lt (by simp; omega)]
        · obtain ⟨h1, h2⟩ := hW.out j (by omega)
          constructor
          · rw [Array.getElem?_setIfInBounds_ne (by omega), Array.getElem?_setIfInBounds_ne (by omega)]; exact h1
          · rw [Array.getElem?_setIfInBounds_ne (by omega), Array.getElem?_setIfInBounds_ne (by omega)]; exact h2
      case measure => simp [intOf] <;> omega
    · obtain rfl : k = len := by omega
      go_wp2_with fail
      go_ret
      exact ⟨rfl, ⟨_, hH.out, marks_len _ _, hsz, fun i hi => by rw [marks_get _ hi]; exact hW.out i hi⟩, hS⟩
set_option maxRecDepth 100000 in
set_option maxHeartbeats 4000000 in
theorem heldS_o (g len cap : Nat) (k0 : Int) (w : World) (hz : OwnB w g len (marks k0 len)) (hl : len ≤ 1048576) (h0 : 0 ≤ k0) (h1 : k0 ≤ 1000000000) : Calls Try.prog 47 #[.slice (some ⟨g, 0, none⟩) len cap, .int .i64 k0] w fun e w' => e = .returned (.int .i64 (k0 + 2 * len)) ∧ Below w.heap.size w w' := by
  obtain ⟨cs, hb0, _, hs0, hc⟩ := hz
  have HC := Lib.hid (show ∀ i, i < len → w.cell? ⟨g, i * 2, none⟩ = some (.int .i64 (k0 + 2 * (i : Int))) ∧ w.cell? ⟨g, i * 2 + 1, none⟩ = some (.int .i64 (k0 + 2 * (i : Int) + 1)) from fun i hi => by
    have h2 := hc i hi
    rw [marks_get _ hi] at h2
    exact ⟨(hb0.cell _).trans h2.1, (hb0.cell _).trans h2.2⟩)
  clear hb0 hc hs0
  go_enter Try.func47, Try.ntmps47
  go_wp2_with fail
  go_loopw [1, 5] (fun q i wr => ∃ (k : Nat), k ≤ len ∧ i = .int .i64 k ∧ q = .int .i64 (k0 + 2 * k) ∧ Below w.heap.size w wr) (fun _ i _ => len - (intOf i).toNat)
  case atStart => exact ⟨0, by omega, rfl, by simp, Below.refl _ _⟩
  case round =>
    obtain ⟨k, hk, rfl, rfl, hS⟩ := hrel
    have hlk : (len : Int) ≤ 1048576 := by omega
    by_cases hlt : k < len
    · obtain ⟨q0, q1⟩ := HC.out k hlt
      have g0 := (hS.cell (p := ⟨g, k * 2, none⟩) (blk q0)).trans q0
      have g1 := (hS.cell (p := ⟨g, k * 2 + 1, none⟩) (blk q1)).trans q1
      clear q0 q1
      go_wp2_with fail
      go_roundw
      case rel => exact ⟨k + 1, by omega, by go_num, by go_num, hS⟩
      case measure => simp [intOf] <;> omega
    · obtain rfl : k = len := by omega
      go_wp2_with fail
      go_ret
      exact ⟨rfl, hS⟩
set_option maxHeartbeats 1000000 in
theorem markS_nil (k0 : Int) (w : World) : Calls Try.prog 46 #[.slice none 0 0, .int .i64 k0] w fun e w' => e = .returned (.int .i64 k0) ∧ Below w.heap.size w w' := by
  go_enter Try.func46, Try.ntmps46
  go_wp2_with fail
  go_loopw [1, 5] (fun q i wr => q = .int .i64 k0 ∧ i = .int .i64 0 ∧ Below w.heap.size w wr) (fun _ i _ => 0)
  case atStart => exact ⟨rfl, rfl, Below.refl _ _⟩
  case round =>
    obtain ⟨rfl, rfl, hS⟩ := hrel
    go_wp2_with fail
    go_ret
    exact ⟨rfl, hS⟩
set_option maxHeartbeats 1000000 in
theorem heldS_nil (k0 : Int) (w : World) : Calls Try.prog 47 #[.slice none 0 0, .int .i64 k0] w fun e w' => e = .returned (.int .i64 k0) ∧ Below w.heap.size w w' := by
  go_enter Try.func47, Try.ntmps47
  go_wp2_with fail
  go_loopw [1, 5] (fun q i wr => q = .int .i64 k0 ∧ i = .int .i64 0 ∧ Below w.heap.size w wr) (fun _ i _ => 0)
  case atStart => exact ⟨rfl, rfl, Below.refl _ _⟩
  case round =>
    obtain ⟨rfl, rfl, hS⟩ := hrel
    go_wp2_with fail
    go_ret
    exact ⟨rfl, hS⟩
set_option maxRecDepth 100000 in
set_option maxHeartbeats 4000000 in
theorem mark_o (on : Bool) (g len cap : Nat) (lo hi k0 k1 : Int) (z : List (Int × Int)) (w : World) (hz : OwnB w g len z) (hl : len ≤ 1048576) (h0 : 0 ≤ k0) (h1 : k0 ≤ 1000000000) (hk : k0 + 2 * len = k1) : Calls Try.prog 18 #[.agg #[.bool on, .slice (some ⟨g, 0, none⟩) len cap, .int .i64 lo, .int .i64 hi], .int .i64 k0] w fun e w' => e = .returned (.int .i64 k1) ∧ OwnB w' g len (marks k0 len) ∧ But g w w' := by
  have HZ := Lib.hid hz
  have HK := Lib.hid hk
  have HL := Lib.hid hl
  clear hz hk hl
  go_enter Try.func18, Try.ntmps18
  go_wp2_with (go_at_call 46; refine (markS_o g len cap k0 z _ (HZ.out.alloc _) HL.out h0 h1).mono ?_; rw [HK.out]; rintro e w1 ⟨rfl, ho, hb⟩; have HO := Lib.hid ho; have hB : But g w w1 := But.trans ((But.refl _ _).alloc _) hb; clear ho hb)
  all_goals (go_ret; exact ⟨rfl, HO.out, hB⟩)
set_option maxRecDepth 100000 in
set_option maxHeartbeats 4000000 in
theorem held_o (on : Bool) (g len cap : Nat) (lo hi k0 k1 : Int) (w : World) (hz : OwnB w g len (marks k0 len)) (hl : len ≤ 1048576) (h0 : 0 ≤ k0) (h1 : k0 ≤ 1000000000) (hk : k0 + 2 * len = k1) : Calls Try.prog 19 #[.agg #[.bool on, .slice (some ⟨g, 0, none⟩) len cap, .int .i64 lo, .int .i64 hi], .int .i64 k0] w fun e w' => e = .returned (.int .i64 k1) ∧ Below w.heap.size w w' := by
  have HZ := Lib.hid hz
  have HK := Lib.hid hk
  have HL := Lib.hid hl
  have h2 : 0 ≤ k1 := by omega
  clear hz hk hl
  go_enter Try.func19, Try.ntmps19
  go_wp2_with (go_at_call 47; refine (heldS_o g len cap k0 _ (HZ.out.alloc _) HL.out h0 h1).mono ?_; rw [HK.out]; rintro e w1 ⟨rfl, hb⟩; have hB : Below w.heap.size w w1 := below_on ((Below.refl w.heap.size w).alloc (Nat.le_refl _) _) hb; clear hb)
  all_goals (go_ret; exact ⟨rfl, hB⟩)
set_option maxRecDepth 100000 in
set_option maxHeartbeats 4000000 in
theorem mark_nil (on : Bool) (lo hi k0 : Int) (h0 : 0 ≤ k0) (w : World) : Calls Try.prog 18 #[.agg #[.bool on, .slice none 0 0, .int .i64 lo, .int .i64 hi], .int .i64 k0] w fun e w' => e = .returned (.int .i64 k0) ∧ Below w.heap.size w w' := by
  go_enter Try.func18, Try.ntmps18
  go_wp2_with (go_at_call 46; refine (markS_nil k0 _).mono ?_; rintro e w1 ⟨rfl, hb⟩; have hB : Below w.heap.size w w1 := below_on ((Below.refl w.heap.size w).alloc (Nat.le_refl _) _) hb; clear hb)
  all_goals (go_ret; exact ⟨rfl, hB⟩)
set_option maxRecDepth 100000 in
set_option maxHeartbeats 4000000 in
theorem held_nil (on : Bool) (lo hi k0 : Int) (h0 : 0 ≤ k0) (w : World) : Calls Try.prog 19 #[.agg #[.bool on, .slice none 0 0, .int .i64 lo, .int .i64 hi], .int .i64 k0] w fun e w' => e = .returned (.int .i64 k0) ∧ Below w.heap.size w w' := by
  go_enter Try.func19, Try.ntmps19
  go_wp2_with (go_at_call 47; refine (heldS_nil k0 _).mono ?_; rintro e w1 ⟨rfl, hb⟩; have hB : Below w.heap.size w w1 := below_on ((Below.refl w.heap.size w).alloc (Nat.le_refl _) _) hb; clear hb)
  all_goals (go_ret; exact ⟨rfl, hB⟩)
end Go.Proofs.Ytdpooiiacdfpkaa
