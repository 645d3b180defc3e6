/-
  The reference's draws of instructions: l20Ins. No conditions but bounds on how far the reader has come.
-/
import Derived.Test.YtdpooiiacdfpkaaDrawS
import Derived.Test.YtdpooiiacdfpkaaInv
import Derived.Deep.CutBlock
namespace Go.Proofs.Ytdpooiiacdfpkaa
set_option linter.unusedSimpArgs false
set_option linter.unusedVariables false
open Go.ChangeShapes Go.WideShapes Go.ChangeAt Go.RowKit Go.Sort

/-- What a draw of an instruction leaves. -/
def DrawIns (rb : Nat) (p m : Int) (w : World) (e : Ending) (w' : World) : Prop :=
  ∃ i0 i1 i2 i3 i4 i5 i6 i7 p' : Int, e = .returned (.agg #[.int .i64 i0, .int .i64 i1, .int .i64 i2, .int .i64 i3, .int .i64 i4, .int .i64 i5, .int .i64 i6, .int .i64 i7]) ∧ p ≤ p' ∧ p' ≤ p + m ∧ Rd w' rb p' ∧ But rb w w'
/-- Block V is an instruction. -/
def InsB (w : World) (V : Nat) : Prop := ∃ i0 i1 i2 i3 i4 i5 i6 i7 : Int, Blk w V 24 #[.int .i64 i0, .int .i64 i1, .int .i64 i2, .int .i64 i3, .int .i64 i4, .int .i64 i5, .int .i64 i6, .int .i64 i7]
section
variable {w w' W : World} {rb R V g : Nat} {p p' : Int}
theorem Blk.eight {t : TypeId} {v0 v1 v2 v3 v4 v5 v6 v7 : Value} (h : Blk w g t #[v0, v1, v2, v3, v4, v5, v6, v7]) : w.cell? ⟨g, 0, none⟩ = some v0 ∧ w.cell? ⟨g, 1, none⟩ = some v1 ∧ w.cell? ⟨g, 2, none⟩ = some v2 ∧ w.cell? ⟨g, 3, none⟩ = some v3 ∧ w.cell? ⟨g, 4, none⟩ = some v4 ∧ w.cell? ⟨g, 5, none⟩ = some v5 ∧ w.cell? ⟨g, 6, none⟩ = some v6 ∧ w.cell? ⟨g, 7, none⟩ = some v7 := ⟨h.cell 0, h.cell 1, h.cell 2, h.cell 3, h.cell 4, h.cell 5, h.cell 6, h.cell 7⟩
theorem Blk.free8 {t : TypeId} {cs : Array Value} (h : Blk w g t cs) : w.frozen? ⟨g, 0, none⟩ = false ∧ w.frozen? ⟨g, 1, none⟩ = false ∧ w.frozen? ⟨g, 2, none⟩ = false ∧ w.frozen? ⟨g, 3, none⟩ = false ∧ w.frozen? ⟨g, 4, none⟩ = false ∧ w.frozen? ⟨g, 5, none⟩ = false ∧ w.frozen? ⟨g, 6, none⟩ = false ∧ w.frozen? ⟨g, 7, none⟩ = false := ⟨h.frozen 0, h.frozen 1, h.frozen 2, h.frozen 3, h.frozen 4, h.frozen 5, h.frozen 6, h.frozen 7⟩
theorem Blk.put8 {t : TypeId} {v0 v1 v2 v3 v4 v5 v6 v7 : Value} (h : Blk w V t #[v0, v1, v2, v3, v4, v5, v6, v7]) (a0 a1 a2 a3 a4 a5 a6 a7 : Int) : Blk ((((((((w.setCell ⟨V, 0, none⟩ (.int .i64 a0)).setCell ⟨V, 1, none⟩ (.int .i64 a1)).setCell ⟨V, 2, none⟩ (.int .i64 a2)).setCell ⟨V, 3, none⟩ (.int .i64 a3)).setCell ⟨V, 4, none⟩ (.int .i64 a4)).setCell ⟨V, 5, none⟩ (.int .i64 a5)).setCell ⟨V, 6, none⟩ (.int .i64 a6)).setCell ⟨V, 7, none⟩ (.int .i64 a7)) V t #[.int .i64 a0, .int .i64 a1, .int .i64 a2, .int .i64 a3, .int .i64 a4, .int .i64 a5, .int .i64 a6, .int .i64 a7] := by
  have k := (((((((h.set_ 0 (.int .i64 a0)).set_ 1 (.int .i64 a1)).set_ 2 (.int .i64 a2)).set_ 3 (.int .i64 a3)).set_ 4 (.int .i64 a4)).set_ 5 (.int .i64 a5)).set_ 6 (.int .i64 a6)).set_ 7 (.int .i64 a7)
  simpa only [List.setIfInBounds_toArray, List.set_cons_zero, List.set_cons_succ] using k
theorem Blk.far8 {t : TypeId} {cs : Array Value} (h : Blk w g t cs) (hn : g ≠ V) (a0 a1 a2 a3 a4 a5 a6 a7 : Int) : Blk ((((((((w.setCell ⟨V, 0, none⟩ (.int .i64 a0)).setCell ⟨V, 1, none⟩ (.int .i64 a1)).setCell ⟨V, 2, none⟩ (.int .i64 a2)).setCell ⟨V, 3, none⟩ (.int .i64 a3)).setCell ⟨V, 4, none⟩ (.int .i64 a4)).setCell ⟨V, 5, none⟩ (.int .i64 a5)).setCell ⟨V, 6, none⟩ (.int .i64 a6)).setCell ⟨V, 7, none⟩ (.int .i64 a7)) g t cs :=
  (((((((h.far (by simp only []; omega) _).far (by simp only []; omega) _).far (by simp only []; omega) _).far (by simp only []; omega) _).far (by simp only []; omega) _).far (by simp only []; omega) _).far (by simp only []; omega) _).far (by simp only []; omega) _
theorem Rd.put8 (h : Rd w rb p) (hn : rb < V) (a0 a1 a2 a3 a4 a5 a6 a7 : Int) : Rd ((((((((w.setCell ⟨V, 0, none⟩ (.int .i64 a0)).setCell ⟨V, 1, none⟩ (.int .i64 a1)).setCell ⟨V, 2, none⟩ (.int .i64 a2)).setCell ⟨V, 3, none⟩ (.int .i64 a3)).setCell ⟨V, 4, none⟩ (.int .i64 a4)).setCell ⟨V, 5, none⟩ (.int .i64 a5)).setCell ⟨V, 6, none⟩ (.int .i64 a6)).setCell ⟨V, 7, none⟩ (.int .i64 a7)) rb p :=
  (((((((h.setCell (by simp only []; omega) _).setCell (by simp only []; omega) _).setCell (by simp only []; omega) _).setCell (by simp only []; omega) _).setCell (by simp only []; omega) _).setCell (by simp only []; omega) _).setCell (by simp only []; omega) _).setCell (by simp only []; omega) _
theorem But.put8 (h : But rb W w) (hn : W.heap.size ≤ V) (a0 a1 a2 a3 a4 a5 a6 a7 : Int) : But rb W ((((((((w.setCell ⟨V, 0, none⟩ (.int .i64 a0)).setCell ⟨V, 1, none⟩ (.int .i64 a1)).setCell ⟨V, 2, none⟩ (.int .i64 a2)).setCell ⟨V, 3, none⟩ (.int .i64 a3)).setCell ⟨V, 4, none⟩ (.int .i64 a4)).setCell ⟨V, 5, none⟩ (.int .i64 a5)).setCell ⟨V, 6, none⟩ (.int .i64 a6)).setCell ⟨V, 7, none⟩ (.int .i64 a7)) :=
  (((((((h.setCell (.inr hn) _).setCell (.inr hn) _).setCell (.inr hn) _).setCell (.inr hn) _).setCell (.inr hn) _).setCell (.inr hn) _).setCell (.inr hn) _).setCell (.inr hn) _
/-- An instruction that is being drawn, in the variable's block V; the result's block R is still empty. -/
structure LI (W : World) (rb : Nat) (p : Int) (wr : World) : Prop where
  rd : Rd wr rb p
  but : But rb W wr
  res : Blk wr W.heap.size 24 #[.int .i64 0, .int .i64 0, .int .i64 0, .int .i64 0, .int .i64 0, .int .i64 0, .int .i64 0, .int .i64 0]
  var : InsB wr (W.heap.size + 1)
  hr : rb < W.heap.size
theorem LI.next (h : LI W rb p w) (hR : Rd w' rb p') (hb : But rb w w') : LI W rb p' w' := by
  have hr := h.hr
  obtain ⟨i0, i1, i2, i3, i4, i5, i6, i7, hv⟩ := h.var
  exact ⟨hR, h.but.trans hb, h.res.but hb (by omega), ⟨i0, i1, i2, i3, i4, i5, i6, i7, hv.but hb (by omega)⟩, hr⟩
theorem LI.lt (h : LI W rb p w) : W.heap.size + 1 < w.heap.size := by
  obtain ⟨i0, i1, i2, i3, i4, i5, i6, i7, hv⟩ := h.var
  exact hv.lt
theorem LI.put (h : LI W rb p w) (a0 a1 a2 a3 a4 a5 a6 a7 : Int) : LI W rb p ((((((((w.setCell ⟨(W.heap.size + 1), 0, none⟩ (.int .i64 a0)).setCell ⟨(W.heap.size + 1), 1, none⟩ (.int .i64 a1)).setCell ⟨(W.heap.size + 1), 2, none⟩ (.int .i64 a2)).setCell ⟨(W.heap.size + 1), 3, none⟩ (.int .i64 a3)).setCell ⟨(W.heap.size + 1), 4, none⟩ (.int .i64 a4)).setCell ⟨(W.heap.size + 1), 5, none⟩ (.int .i64 a5)).setCell ⟨(W.heap.size + 1), 6, none⟩ (.int .i64 a6)).setCell ⟨(W.heap.size + 1), 7, none⟩ (.int .i64 a7)) := by
  have hr := h.hr
  obtain ⟨i0, i1, i2, i3, i4, i5, i6, i7, hv⟩ := h.var
  exact ⟨h.rd.put8 (by omega) _ _ _ _ _ _ _ _, h.but.put8 (by omega) _ _ _ _ _ _ _ _, h.res.far8 (by omega) _ _ _ _ _ _ _ _, ⟨_, _, _, _, _, _, _, _, hv.put8 _ _ _ _ _ _ _ _⟩, hr⟩
end
theorem lt12 {x : Int} (h : Pick 12 x) : x = 0 ∨ x = 1 ∨ x = 2 ∨ x = 3 ∨ x = 4 ∨ x = 5 ∨ x = 6 ∨ x = 7 ∨ x = 8 ∨ x = 9 ∨ x = 10 ∨ x = 11 := by have := h.1; have := h.2.1 (by omega); omega
/-- A table of five numbers. -/
def Tab5 (w : World) (g : Nat) : Prop := ∀ i, i < 5 → ∃ y : Int, w.cell? ⟨g, i, none⟩ = some (.int .i64 y)
section
variable {w w' : World} {rb g V : Nat}
theorem Tab5.but (h : Tab5 w g) (hb : But rb w w') (hn : g ≠ rb) : Tab5 w' g := fun i hi => by
  obtain ⟨y, hy⟩ := h i hi
  exact ⟨y, (hb.cell (World.block_lt_of_cell? w _ hy) hn).trans hy⟩
theorem Tab5.put8 (h : Tab5 w g) (hn : g ≠ V) (a0 a1 a2 a3 a4 a5 a6 a7 : Int) : Tab5 ((((((((w.setCell ⟨V, 0, none⟩ (.int .i64 a0)).setCell ⟨V, 1, none⟩ (.int .i64 a1)).setCell ⟨V, 2, none⟩ (.int .i64 a2)).setCell ⟨V, 3, none⟩ (.int .i64 a3)).setCell ⟨V, 4, none⟩ (.int .i64 a4)).setCell ⟨V, 5, none⟩ (.int .i64 a5)).setCell ⟨V, 6, none⟩ (.int .i64 a6)).setCell ⟨V, 7, none⟩ (.int .i64 a7)) g := fun i hi => by
  obtain ⟨y, hy⟩ := h i hi
  exact ⟨y, keep_set _ hn (keep_set _ hn (keep_set _ hn (keep_set _ hn (keep_set _ hn (keep_set _ hn (keep_set _ hn (keep_set _ hn hy)))))))⟩
theorem tab5_new (w : World) (t : TypeId) (y0 y1 y2 y3 y4 : Int) : Tab5 (w.alloc (.cells #[.int .i64 y0, .int .i64 y1, .int .i64 y2, .int .i64 y3, .int .i64 y4] t)) w.heap.size := fun i hi => by
  have k := (Blk.new w t #[.int .i64 y0, .int .i64 y1, .int .i64 y2, .int .i64 y3, .int .i64 y4]).cell i
  match i, hi with
  | 0, _ => exact ⟨_, k⟩
  | 1, _ => exact ⟨_, k⟩
  | 2, _ => exact ⟨_, k⟩
  | 3, _ => exact ⟨_, k⟩
  | 4, _ => exact ⟨_, k⟩
theorem toNat_1 (b : Bool) : b.toNat ≤ 1 := by cases b <;> simp
end
set_option maxRecDepth 100000 in
set_option maxHeartbeats 8000000 in
theorem l20Ins_s (rb : Nat) (p : Int) (w : World) (h : Rd w rb p) (hp : p ≤ 999999600) :
    Calls Try.prog 52 #[.pointer (some ⟨rb, 0, none⟩), .int .i64 4, .int .i64 10] w (DrawIns rb p 40 w) := by
  have hrb := h.lt
  go_enter Try.func52, Try.ntmps52
  go_wp2_with fail
  refine (pick_s rb p 12 _ ((h.alloc _).alloc _) (by omega) (by unfold I64; omega)).mono ?_
  rintro e w1 ⟨x, p1, rfl, hx, hq1, hq2, hR1, hb1⟩
  have hL : LI w rb p1 w1 := ⟨hR1, (((But.refl rb w).alloc _).alloc _).trans hb1, ((Blk.new w _ _).alloc _).but hb1 (by omega), ⟨0, 0, 0, 0, 0, 0, 0, 0, (Blk.new_at (by simp only [World.size_alloc])).but hb1 (by omega)⟩, hrb⟩
  have HL := Lib.hid hL
  clear hL hR1 hb1 h
  go_upto_block 0 with fail
  go_cut [8] from 8 to 95 (fun s8 wx => ∃ W, W = wx ∧ ∃ p2 : Int, p1 ≤ p2 ∧ p2 ≤ p1 + 30 ∧ LI w rb p2 wx)
  case first =>
    rcases lt12 hx with rfl | rfl | rfl | rfl | rfl | rfl | rfl | rfl | rfl | rfl | rfl | rfl
    · clear hx
      go_wp2_with fail
      refine (l20Num_s rb p1 _ HL.out.rd (by omega)).mono ?_
      rintro e w2 ⟨x2, p2, rfl, hx2, hq2a, hq2b, hR2, hb2⟩
      have HM := Lib.hid (HL.out.next hR2 hb2); clear HL hR2 hb2; have HL := HM; clear HM
      go_wp2_with fail
      refine (pick_s rb p2 4 _ HL.out.rd (by omega) (by unfold I64; omega)).mono ?_
      rintro e w3 ⟨x3, p3, rfl, hx3, hq3a, hq3b, hR3, hb3⟩
      have HM := Lib.hid (HL.out.next hR3 hb3); clear HL hR3 hb3; have HL := HM; clear HM
      have hx3a := hx3.1; have hx3b := hx3.2.1 (by omega); clear hx3
      obtain ⟨i0, i1, i2, i3, i4, i5, i6, i7, hv⟩ := HL.out.var; obtain ⟨c0, c1, c2, c3, c4, c5, c6, c7⟩ := hv.eight; obtain ⟨f0, f1, f2, f3, f4, f5, f6, f7⟩ := hv.free8; clear hv
      go_wp2_with fail
      go_meet
      exact ⟨_, rfl, p3, by omega, by omega, HL.out.put _ _ _ _ _ _ _ _⟩
    · clear hx
      go_wp2_with fail
      refine (l20Num_s rb p1 _ HL.out.rd (by omega)).mono ?_
      rintro e w2 ⟨x2, p2, rfl, hx2, hq2a, hq2b, hR2, hb2⟩
      have HM := Lib.hid (HL.out.next hR2 hb2); clear HL hR2 hb2; have HL := HM; clear HM
      go_wp2_with fail
      refine (pick_s rb p2 4 _ HL.out.rd (by omega) (by unfold I64; omega)).mono ?_
      rintro e w3 ⟨x3, p3, rfl, hx3, hq3a, hq3b, hR3, hb3⟩
      have HM := Lib.hid (HL.out.next hR3 hb3); clear HL hR3 hb3; have HL := HM; clear HM
      have hx3a := hx3.1; have hx3b := hx3.2.1 (by omega); clear hx3
      obtain ⟨i0, i1, i2, i3, i4, i5, i6, i7, hv⟩ := HL.out.var; obtain ⟨c0, c1, c2, c3, c4, c5, c6, c7⟩ := hv.eight; obtain ⟨f0, f1, f2, f3, f4, f5, f6, f7⟩ := hv.free8; clear hv
      go_wp2_with fail
      go_meet
      exact ⟨_, rfl, p3, by omega, by omega, HL.out.put _ _ _ _ _ _ _ _⟩
    · clear hx
      go_wp2_with fail
      refine (l20Itv_s rb p1 99999 _ HL.out.rd (by omega) (by unfold I64; omega)).mono ?_
      rintro e w2 ⟨lo, hi, p2, rfl, _, _, hq2a, hq2b, hR2, hb2⟩
      have HM := Lib.hid (HL.out.next hR2 hb2); clear HL hR2 hb2; have HL := HM; clear HM
      go_upto_region 10 with fail
      have kB : Blk (w2.alloc (.cells #[.int .i64 lo, .int .i64 hi] 27)) w2.heap.size 27 #[.int .i64 lo, .int .i64 hi] := Blk.new _ _ _
      have HM := Lib.hid (HL.out.next (HL.out.rd.alloc (.cells #[.int .i64 lo, .int .i64 hi] 27)) ((But.refl _ _).alloc (.cells #[.int .i64 lo, .int .i64 hi] 27)))
      have nD : w2.heap.size ≠ w.heap.size + 1 := by have := HL.out.lt; omega
      have nR : w2.heap.size ≠ rb := by have := HL.out.lt; omega
      clear HL
      have HL := HM
      clear HM
      generalize (w2.alloc (.cells #[.int .i64 lo, .int .i64 hi] 27)) = w3 at *
      have zB := kB.lt
      have d0 := kB.cell 0
      have d1 := kB.cell 1
      simp only [List.getElem?_toArray, List.getElem?_cons_zero, List.getElem?_cons_succ] at d0 d1
      go_region_held3 (fun w' => w'.cell? ⟨w2.heap.size, 0, none⟩ = some (.int .i64 lo) ∧ w'.cell? ⟨w2.heap.size, 1, none⟩ = some (.int .i64 hi)) (((try go_split_ands); (refine ⟨?_, ?_⟩); all_goals first | with_reducible assumption | ((with_reducible apply keep_drew); with_reducible assumption) | ((try (with_reducible apply keep_drew)); (repeat (with_reducible refine keep_set _ (by exact nD) ?_)); with_reducible assumption))) ((go_at_call 27; refine (pick_s rb p2 4 _ HL.out.rd.drew (by omega) (by unfold I64; omega)).mono ?_; rintro e w5 ⟨x5, p5, rfl, hx5, hq5a, hq5b, hR5, hb5⟩; replace d0 := (hb5.cell (p := ⟨w2.heap.size, 0, none⟩) zB nR).trans d0; replace d1 := (hb5.cell (p := ⟨w2.heap.size, 1, none⟩) zB nR).trans d1; have HM := Lib.hid (HL.out.next hR5 ((But.refl _ _).drew.trans hb5)); clear HL hR5 hb5 kB; have HL := HM; clear HM; obtain ⟨i0, i1, i2, i3, i4, i5, i6, i7, hv⟩ := HL.out.var; obtain ⟨c0, c1, c2, c3, c4, c5, c6, c7⟩ := hv.eight; obtain ⟨f0, f1, f2, f3, f4, f5, f6, f7⟩ := hv.free8; clear hv))
      go_wp2_with fail
      go_meet
      exact ⟨_, rfl, p5, by omega, by omega, HL.out.put _ _ _ _ _ _ _ _⟩
    · clear hx
      go_wp2_with fail
      refine region_invA (fun A0 listed a w' => ∃ (l0 l1 l2 l3 l4 l5 l6 l7 l8 l9 l10 l11 l12 : Bool) (v0 v1 v2 v3 v4 v5 v6 v7 v8 v9 v10 v11 : Value) (g : Nat) (q : Int), listed = #[l0, l1, l2, l3, l4, l5, l6, l7, l8, l9, l10, l11, l12] ∧ a = ⟨(A0.tmps.toList.take 46 ++ (v0 :: v1 :: v2 :: v3 :: v4 :: v5 :: v6 :: v7 :: v8 :: v9 :: v10 :: v11 :: A0.tmps.toList.drop 58)).toArray, A0.defers⟩ ∧ p1 ≤ q ∧ q ≤ p1 + ((l2.toNat + l6.toNat + l8.toNat + l10.toNat : Nat) : Int) ∧ LI w rb q w' ∧ (l0 = true → v0 = .slice (some ⟨g, 0, none⟩) 5 5 ∧ Tab5 w' g ∧ w.heap.size + 1 < g) ∧ (l1 = true → v1 = .pointer (some ⟨rb, 0, none⟩)) ∧ (l2 = true → ∃ x : Nat, v2 = .int .i64 (x : Int) ∧ x < 5) ∧ (l3 = true → l0 = true ∧ ∃ i : Nat, v3 = .pointer (some ⟨g, i, none⟩) ∧ i < 5) ∧ (l4 = true → ∃ y : Int, v4 = .int .i64 y) ∧ (l5 = true → v5 = .pointer (some ⟨rb, 0, none⟩)) ∧ (l6 = true → ∃ y : Int, v6 = .int .i64 y) ∧ (l7 = true → v7 = .pointer (some ⟨rb, 0, none⟩)) ∧ (l8 = true → ∃ y : Int, v8 = .int .i64 y) ∧ (l9 = true → v9 = .pointer (some ⟨rb, 0, none⟩)) ∧ (l10 = true → ∃ y : Int, v10 = .int .i64 y) ∧ (l11 = true → ∃ a0 a1 a2 a3 a4 a5 a6 a7 : Int, v11 = .agg #[.int .i64 a0, .int .i64 a1, .int .i64 a2, .int .i64 a3, .int .i64 a4, .int .i64 a5, .int .i64 a6, .int .i64 a7])) (by kernel_rfl) (by kernel_rfl) ?hz ?h0 ?hs ?hend
      case hz =>
        rintro listed a w1 ⟨l0, l1, l2, l3, l4, l5, l6, l7, l8, l9, l10, l11, l12, v0, v1, v2, v3, v4, v5, v6, v7, v8, v9, v10, v11, g, q, rfl, -⟩
        rfl
      case h0 => exact ⟨false, false, false, false, false, false, false, false, false, false, false, false, false, undef, undef, undef, undef, undef, undef, undef, undef, undef, undef, undef, undef, 0, p1, rfl, (by simp only [List.take_succ_cons, List.take_zero, List.drop_succ_cons, List.drop_zero, List.cons_append, List.nil_append]), (by omega), (by simp), (HL.out.next HL.out.rd.drew (But.refl _ _).drew), (fun h => by cases h), (fun h => by cases h), (fun h => by cases h), (fun h => by cases h), (fun h => by cases h), (fun h => by cases h), (fun h => by cases h), (fun h => by cases h), (fun h => by cases h), (fun h => by cases h), (fun h => by cases h), (fun h => by cases h)⟩
      case hs =>
        refine AllSteps.cons ?_ <| AllSteps.cons ?_ <| AllSteps.cons ?_ <| AllSteps.cons ?_ <| AllSteps.cons ?_ <| AllSteps.cons ?_ <| AllSteps.cons ?_ <| AllSteps.cons ?_ <| AllSteps.cons ?_ <| AllSteps.cons ?_ <| AllSteps.cons ?_ <| AllSteps.cons ?_ <| AllSteps.cons ?_ <| AllSteps.nil
        · refine StepOf.plain rfl ?_
          go_light
          intro listed a w1 hI h0 ha K hK
          obtain ⟨l0, l1, l2, l3, l4, l5, l6, l7, l8, l9, l10, l11, l12, v0, v1, v2, v3, v4, v5, v6, v7, v8, v9, v10, v11, g, q, rfl, ha', h1, h2, hL, k0, k1, k2, k3, k4, k5, k6, k7, k8, k9, k10, k11⟩ := hI
          simp only [List.take_succ_cons, List.take_zero, List.drop_succ_cons, List.drop_zero, List.cons_append, List.nil_append] at ha'
          subst ha'
          have e0 : l0 = false := h0
          clear ha h0
          subst e0 
          go_simp
          refine hK.out _ _ ?_
          exact ⟨true, l1, l2, l3, l4, l5, l6, l7, l8, l9, l10, l11, l12, _, v1, v2, v3, v4, v5, v6, v7, v8, v9, v10, v11, w1.heap.size, q, rfl, (by simp only [List.take_succ_cons, List.take_zero, List.drop_succ_cons, List.drop_zero, List.cons_append, List.nil_append]), (h1), (h2), (hL.next (hL.rd.alloc _) ((But.refl _ _).alloc _)), (fun _ => ⟨rfl, tab5_new _ _ _ _ _ _ _, hL.lt⟩), (k1), (k2), (fun h => by cases (k3 h).1), (k4), (k5), (k6), (k7), (k8), (k9), (k10), (k11)⟩
        · refine StepOf.plain rfl ?_
          go_light
          intro listed a w1 hI h0 ha K hK
          obtain ⟨l0, l1, l2, l3, l4, l5, l6, l7, l8, l9, l10, l11, l12, v0, v1, v2, v3, v4, v5, v6, v7, v8, v9, v10, v11, g, q, rfl, ha', h1, h2, hL, k0, k1, k2, k3, k4, k5, k6, k7, k8, k9, k10, k11⟩ := hI
          simp only [List.take_succ_cons, List.take_zero, List.drop_succ_cons, List.drop_zero, List.cons_append, List.nil_append] at ha'
          subst ha'
          have e0 : l1 = false := h0
          clear ha h0
          subst e0 
          go_simp
          refine hK.out _ _ ?_
          exact ⟨l0, true, l2, l3, l4, l5, l6, l7, l8, l9, l10, l11, l12, v0, _, v2, v3, v4, v5, v6, v7, v8, v9, v10, v11, g, q, rfl, (by simp only [List.take_succ_cons, List.take_zero, List.drop_succ_cons, List.drop_zero, List.cons_append, List.nil_append]), (h1), (h2), (hL), (k0), (fun _ => rfl), (k2), (k3), (k4), (k5), (k6), (k7), (k8), (k9), (k10), (k11)⟩
        · refine StepOf.plain rfl ?_
          go_light
          intro listed a w1 hI h0 ha K hK
          obtain ⟨l0, l1, l2, l3, l4, l5, l6, l7, l8, l9, l10, l11, l12, v0, v1, v2, v3, v4, v5, v6, v7, v8, v9, v10, v11, g, q, rfl, ha', h1, h2, hL, k0, k1, k2, k3, k4, k5, k6, k7, k8, k9, k10, k11⟩ := hI
          simp only [List.take_succ_cons, List.take_zero, List.drop_succ_cons, List.drop_zero, List.cons_append, List.nil_append] at ha'
          subst ha'
          have e0 : l2 = false := h0
          have g1 : l1 = true := by revert ha; cases l1 <;> simp [Region.binds]
          clear ha h0
          subst e0 g1
          obtain rfl := k1 rfl
          go_simp
          have hbd : q ≤ p1 + 3 := by
            have t2 := toNat_1 false; have t6 := toNat_1 l6; have t8 := toNat_1 l8; have t10 := toNat_1 l10; simp only [Bool.toNat_false, Bool.toNat_true] at h2 t2 t6 t8 t10; omega
          refine (pick_s rb q 5 _ hL.rd (by omega) (by unfold I64; omega)).mono ?_
          rintro e w2 ⟨x, q', rfl, hx, hqa, hqb, hR2, hb2⟩
          have hx0 := hx.1; have hx1 := hx.2.1 (by omega); clear hx
          obtain ⟨x, rfl⟩ := Int.eq_ofNat_of_zero_le hx0
          go_wp2_with fail
          refine hK.out _ _ ?_
          exact ⟨l0, true, true, l3, l4, l5, l6, l7, l8, l9, l10, l11, l12, v0, _, (.int .i64 (x : Int)), v3, v4, v5, v6, v7, v8, v9, v10, v11, g, q', rfl, (by simp only [List.take_succ_cons, List.take_zero, List.drop_succ_cons, List.drop_zero, List.cons_append, List.nil_append]), (by omega), (by simp only [Bool.toNat_false, Bool.toNat_true] at h2 ⊢; omega), (hL.next hR2 hb2), (fun h => ⟨(k0 h).1, (k0 h).2.1.but hb2 (by have := (k0 h).2.2; have := hL.hr; omega), (k0 h).2.2⟩), (fun _ => rfl), (fun _ => ⟨x, rfl, by omega⟩), (k3), (k4), (k5), (k6), (k7), (k8), (k9), (k10), (k11)⟩
        · refine StepOf.plain rfl ?_
          go_light
          intro listed a w1 hI h0 ha K hK
          obtain ⟨l0, l1, l2, l3, l4, l5, l6, l7, l8, l9, l10, l11, l12, v0, v1, v2, v3, v4, v5, v6, v7, v8, v9, v10, v11, g, q, rfl, ha', h1, h2, hL, k0, k1, k2, k3, k4, k5, k6, k7, k8, k9, k10, k11⟩ := hI
          simp only [List.take_succ_cons, List.take_zero, List.drop_succ_cons, List.drop_zero, List.cons_append, List.nil_append] at ha'
          subst ha'
          have e0 : l3 = false := h0
          have g0 : l0 = true := by revert ha; cases l0 <;> simp [Region.binds]
          have g2 : l2 = true := by revert ha; cases l2 <;> simp [Region.binds]
          clear ha h0
          subst e0 g0 g2
          obtain ⟨rfl, T0, G0⟩ := k0 rfl
          obtain ⟨x, rfl, hx5⟩ := k2 rfl
          have j0 : (0 : Int) ≤ (x : Int) := by omega
          have j1 : (x : Int) < 5 := by omega
          go_simp
          refine hK.out _ _ ?_
          exact ⟨true, l1, true, true, l4, l5, l6, l7, l8, l9, l10, l11, l12, _, v1, _, (.pointer (some ⟨g, x, none⟩)), v4, v5, v6, v7, v8, v9, v10, v11, g, q, rfl, (by simp only [List.take_succ_cons, List.take_zero, List.drop_succ_cons, List.drop_zero, List.cons_append, List.nil_append]), (h1), (h2), (hL), (fun _ => ⟨rfl, T0, G0⟩), (k1), (fun _ => ⟨x, rfl, hx5⟩), (fun _ => ⟨rfl, _, rfl, by omega⟩), (k4), (k5), (k6), (k7), (k8), (k9), (k10), (k11)⟩
        · refine StepOf.plain rfl ?_
          go_light
          intro listed a w1 hI h0 ha K hK
          obtain ⟨l0, l1, l2, l3, l4, l5, l6, l7, l8, l9, l10, l11, l12, v0, v1, v2, v3, v4, v5, v6, v7, v8, v9, v10, v11, g, q, rfl, ha', h1, h2, hL, k0, k1, k2, k3, k4, k5, k6, k7, k8, k9, k10, k11⟩ := hI
          simp only [List.take_succ_cons, List.take_zero, List.drop_succ_cons, List.drop_zero, List.cons_append, List.nil_append] at ha'
          subst ha'
          have e0 : l4 = false := h0
          have g3 : l3 = true := by revert ha; cases l3 <;> simp [Region.binds]
          clear ha h0
          subst e0 g3
          obtain ⟨rfl, y, rfl, hy⟩ := k3 rfl
          obtain ⟨rfl, T0, G0⟩ := k0 rfl
          obtain ⟨u, hu⟩ := T0 y hy
          go_simp
          refine hK.out _ _ ?_
          exact ⟨true, l1, l2, true, true, l5, l6, l7, l8, l9, l10, l11, l12, _, v1, v2, _, (.int .i64 u), v5, v6, v7, v8, v9, v10, v11, g, q, rfl, (by simp only [List.take_succ_cons, List.take_zero, List.drop_succ_cons, List.drop_zero, List.cons_append, List.nil_append]), (h1), (h2), (hL), (fun _ => ⟨rfl, T0, G0⟩), (k1), (k2), (fun _ => ⟨rfl, y, rfl, hy⟩), (fun _ => ⟨_, rfl⟩), (k5), (k6), (k7), (k8), (k9), (k10), (k11)⟩
        · refine StepOf.plain rfl ?_
          go_light
          intro listed a w1 hI h0 ha K hK
          obtain ⟨l0, l1, l2, l3, l4, l5, l6, l7, l8, l9, l10, l11, l12, v0, v1, v2, v3, v4, v5, v6, v7, v8, v9, v10, v11, g, q, rfl, ha', h1, h2, hL, k0, k1, k2, k3, k4, k5, k6, k7, k8, k9, k10, k11⟩ := hI
          simp only [List.take_succ_cons, List.take_zero, List.drop_succ_cons, List.drop_zero, List.cons_append, List.nil_append] at ha'
          subst ha'
          have e0 : l5 = false := h0
          clear ha h0
          subst e0 
          go_simp
          refine hK.out _ _ ?_
          exact ⟨l0, l1, l2, l3, l4, true, l6, l7, l8, l9, l10, l11, l12, v0, v1, v2, v3, v4, _, v6, v7, v8, v9, v10, v11, g, q, rfl, (by simp only [List.take_succ_cons, List.take_zero, List.drop_succ_cons, List.drop_zero, List.cons_append, List.nil_append]), (h1), (h2), (hL), (k0), (k1), (k2), (k3), (k4), (fun _ => rfl), (k6), (k7), (k8), (k9), (k10), (k11)⟩
        · refine StepOf.plain rfl ?_
          go_light
          intro listed a w1 hI h0 ha K hK
          obtain ⟨l0, l1, l2, l3, l4, l5, l6, l7, l8, l9, l10, l11, l12, v0, v1, v2, v3, v4, v5, v6, v7, v8, v9, v10, v11, g, q, rfl, ha', h1, h2, hL, k0, k1, k2, k3, k4, k5, k6, k7, k8, k9, k10, k11⟩ := hI
          simp only [List.take_succ_cons, List.take_zero, List.drop_succ_cons, List.drop_zero, List.cons_append, List.nil_append] at ha'
          subst ha'
          have e0 : l6 = false := h0
          have g5 : l5 = true := by revert ha; cases l5 <;> simp [Region.binds]
          have g2 : l2 = true := by revert ha; cases l2 <;> simp [Region.binds]
          clear ha h0
          subst e0 g5 g2
          obtain rfl := k5 rfl
          go_simp
          have hbd : q ≤ p1 + 3 := by
            have t2 := toNat_1 true; have t6 := toNat_1 false; have t8 := toNat_1 l8; have t10 := toNat_1 l10; simp only [Bool.toNat_false, Bool.toNat_true] at h2 t2 t6 t8 t10; omega
          refine (pick_s rb q 4 _ hL.rd (by omega) (by unfold I64; omega)).mono ?_
          rintro e w2 ⟨x, q', rfl, hx, hqa, hqb, hR2, hb2⟩
          have hx0 := hx.1; have hx1 := hx.2.1 (by omega); clear hx
          obtain ⟨x, rfl⟩ := Int.eq_ofNat_of_zero_le hx0
          go_wp2_with fail
          refine hK.out _ _ ?_
          exact ⟨l0, l1, true, l3, l4, true, true, l7, l8, l9, l10, l11, l12, v0, v1, v2, v3, v4, _, (.int .i64 (x : Int)), v7, v8, v9, v10, v11, g, q', rfl, (by simp only [List.take_succ_cons, List.take_zero, List.drop_succ_cons, List.drop_zero, List.cons_append, List.nil_append]), (by omega), (by simp only [Bool.toNat_false, Bool.toNat_true] at h2 ⊢; omega), (hL.next hR2 hb2), (fun h => ⟨(k0 h).1, (k0 h).2.1.but hb2 (by have := (k0 h).2.2; have := hL.hr; omega), (k0 h).2.2⟩), (k1), (fun _ => k2 (by trivial)), (k3), (k4), (fun _ => rfl), (fun _ => ⟨_, rfl⟩), (k7), (k8), (k9), (k10), (k11)⟩
        · refine StepOf.plain rfl ?_
          go_light
          intro listed a w1 hI h0 ha K hK
          obtain ⟨l0, l1, l2, l3, l4, l5, l6, l7, l8, l9, l10, l11, l12, v0, v1, v2, v3, v4, v5, v6, v7, v8, v9, v10, v11, g, q, rfl, ha', h1, h2, hL, k0, k1, k2, k3, k4, k5, k6, k7, k8, k9, k10, k11⟩ := hI
          simp only [List.take_succ_cons, List.take_zero, List.drop_succ_cons, List.drop_zero, List.cons_append, List.nil_append] at ha'
          subst ha'
          have e0 : l7 = false := h0
          clear ha h0
          subst e0 
          go_simp
          refine hK.out _ _ ?_
          exact ⟨l0, l1, l2, l3, l4, l5, l6, true, l8, l9, l10, l11, l12, v0, v1, v2, v3, v4, v5, v6, _, v8, v9, v10, v11, g, q, rfl, (by simp only [List.take_succ_cons, List.take_zero, List.drop_succ_cons, List.drop_zero, List.cons_append, List.nil_append]), (h1), (h2), (hL), (k0), (k1), (k2), (k3), (k4), (k5), (k6), (fun _ => rfl), (k8), (k9), (k10), (k11)⟩
        · refine StepOf.plain rfl ?_
          go_light
          intro listed a w1 hI h0 ha K hK
          obtain ⟨l0, l1, l2, l3, l4, l5, l6, l7, l8, l9, l10, l11, l12, v0, v1, v2, v3, v4, v5, v6, v7, v8, v9, v10, v11, g, q, rfl, ha', h1, h2, hL, k0, k1, k2, k3, k4, k5, k6, k7, k8, k9, k10, k11⟩ := hI
          simp only [List.take_succ_cons, List.take_zero, List.drop_succ_cons, List.drop_zero, List.cons_append, List.nil_append] at ha'
          subst ha'
          have e0 : l8 = false := h0
          have g7 : l7 = true := by revert ha; cases l7 <;> simp [Region.binds]
          have g6 : l6 = true := by revert ha; cases l6 <;> simp [Region.binds]
          clear ha h0
          subst e0 g7 g6
          obtain rfl := k7 rfl
          go_simp
          have hbd : q ≤ p1 + 3 := by
            have t2 := toNat_1 l2; have t6 := toNat_1 true; have t8 := toNat_1 false; have t10 := toNat_1 l10; simp only [Bool.toNat_false, Bool.toNat_true] at h2 t2 t6 t8 t10; omega
          refine (pick_s rb q 4 _ hL.rd (by omega) (by unfold I64; omega)).mono ?_
          rintro e w2 ⟨x, q', rfl, hx, hqa, hqb, hR2, hb2⟩
          have hx0 := hx.1; have hx1 := hx.2.1 (by omega); clear hx
          obtain ⟨x, rfl⟩ := Int.eq_ofNat_of_zero_le hx0
          go_wp2_with fail
          refine hK.out _ _ ?_
          exact ⟨l0, l1, l2, l3, l4, l5, true, true, true, l9, l10, l11, l12, v0, v1, v2, v3, v4, v5, v6, _, (.int .i64 (x : Int)), v9, v10, v11, g, q', rfl, (by simp only [List.take_succ_cons, List.take_zero, List.drop_succ_cons, List.drop_zero, List.cons_append, List.nil_append]), (by omega), (by simp only [Bool.toNat_false, Bool.toNat_true] at h2 ⊢; omega), (hL.next hR2 hb2), (fun h => ⟨(k0 h).1, (k0 h).2.1.but hb2 (by have := (k0 h).2.2; have := hL.hr; omega), (k0 h).2.2⟩), (k1), (k2), (k3), (k4), (k5), (fun _ => k6 (by trivial)), (fun _ => rfl), (fun _ => ⟨_, rfl⟩), (k9), (k10), (k11)⟩
        · refine StepOf.plain rfl ?_
          go_light
          intro listed a w1 hI h0 ha K hK
          obtain ⟨l0, l1, l2, l3, l4, l5, l6, l7, l8, l9, l10, l11, l12, v0, v1, v2, v3, v4, v5, v6, v7, v8, v9, v10, v11, g, q, rfl, ha', h1, h2, hL, k0, k1, k2, k3, k4, k5, k6, k7, k8, k9, k10, k11⟩ := hI
          simp only [List.take_succ_cons, List.take_zero, List.drop_succ_cons, List.drop_zero, List.cons_append, List.nil_append] at ha'
          subst ha'
          have e0 : l9 = false := h0
          clear ha h0
          subst e0 
          go_simp
          refine hK.out _ _ ?_
          exact ⟨l0, l1, l2, l3, l4, l5, l6, l7, l8, true, l10, l11, l12, v0, v1, v2, v3, v4, v5, v6, v7, v8, _, v10, v11, g, q, rfl, (by simp only [List.take_succ_cons, List.take_zero, List.drop_succ_cons, List.drop_zero, List.cons_append, List.nil_append]), (h1), (h2), (hL), (k0), (k1), (k2), (k3), (k4), (k5), (k6), (k7), (k8), (fun _ => rfl), (k10), (k11)⟩
        · refine StepOf.plain rfl ?_
          go_light
          intro listed a w1 hI h0 ha K hK
          obtain ⟨l0, l1, l2, l3, l4, l5, l6, l7, l8, l9, l10, l11, l12, v0, v1, v2, v3, v4, v5, v6, v7, v8, v9, v10, v11, g, q, rfl, ha', h1, h2, hL, k0, k1, k2, k3, k4, k5, k6, k7, k8, k9, k10, k11⟩ := hI
          simp only [List.take_succ_cons, List.take_zero, List.drop_succ_cons, List.drop_zero, List.cons_append, List.nil_append] at ha'
          subst ha'
          have e0 : l10 = false := h0
          have g9 : l9 = true := by revert ha; cases l9 <;> simp [Region.binds]
          have g8 : l8 = true := by revert ha; cases l8 <;> simp [Region.binds]
          clear ha h0
          subst e0 g9 g8
          obtain rfl := k9 rfl
          go_simp
          have hbd : q ≤ p1 + 3 := by
            have t2 := toNat_1 l2; have t6 := toNat_1 l6; have t8 := toNat_1 true; have t10 := toNat_1 false; simp only [Bool.toNat_false, Bool.toNat_true] at h2 t2 t6 t8 t10; omega
          refine (pick_s rb q 4 _ hL.rd (by omega) (by unfold I64; omega)).mono ?_
          rintro e w2 ⟨x, q', rfl, hx, hqa, hqb, hR2, hb2⟩
          have hx0 := hx.1; have hx1 := hx.2.1 (by omega); clear hx
          obtain ⟨x, rfl⟩ := Int.eq_ofNat_of_zero_le hx0
          go_wp2_with fail
          refine hK.out _ _ ?_
          exact ⟨l0, l1, l2, l3, l4, l5, l6, l7, true, true, true, l11, l12, v0, v1, v2, v3, v4, v5, v6, v7, v8, _, (.int .i64 (x : Int)), v11, g, q', rfl, (by simp only [List.take_succ_cons, List.take_zero, List.drop_succ_cons, List.drop_zero, List.cons_append, List.nil_append]), (by omega), (by simp only [Bool.toNat_false, Bool.toNat_true] at h2 ⊢; omega), (hL.next hR2 hb2), (fun h => ⟨(k0 h).1, (k0 h).2.1.but hb2 (by have := (k0 h).2.2; have := hL.hr; omega), (k0 h).2.2⟩), (k1), (k2), (k3), (k4), (k5), (k6), (k7), (fun _ => k8 (by trivial)), (fun _ => rfl), (fun _ => ⟨_, rfl⟩), (k11)⟩
        · refine StepOf.plain rfl ?_
          go_light
          intro listed a w1 hI h0 ha K hK
          obtain ⟨l0, l1, l2, l3, l4, l5, l6, l7, l8, l9, l10, l11, l12, v0, v1, v2, v3, v4, v5, v6, v7, v8, v9, v10, v11, g, q, rfl, ha', h1, h2, hL, k0, k1, k2, k3, k4, k5, k6, k7, k8, k9, k10, k11⟩ := hI
          simp only [List.take_succ_cons, List.take_zero, List.drop_succ_cons, List.drop_zero, List.cons_append, List.nil_append] at ha'
          subst ha'
          have e0 : l11 = false := h0
          have g4 : l4 = true := by revert ha; cases l4 <;> simp [Region.binds]
          have g6 : l6 = true := by revert ha; cases l6 <;> simp [Region.binds]
          have g8 : l8 = true := by revert ha; cases l8 <;> simp [Region.binds]
          have g10 : l10 = true := by revert ha; cases l10 <;> simp [Region.binds]
          clear ha h0
          subst e0 g4 g6 g8 g10
          obtain ⟨y4, rfl⟩ := k4 rfl
          obtain ⟨y6, rfl⟩ := k6 rfl
          obtain ⟨y8, rfl⟩ := k8 rfl
          obtain ⟨y10, rfl⟩ := k10 rfl
          go_simp
          refine hK.out _ _ ?_
          exact ⟨l0, l1, l2, l3, true, l5, true, l7, true, l9, true, true, l12, v0, v1, v2, v3, (.int .i64 y4), v5, (.int .i64 y6), v7, (.int .i64 y8), v9, (.int .i64 y10), (.agg #[.int .i64 y4, .int .i64 y6, .int .i64 y8, .int .i64 y10, .int .i64 0, .int .i64 0, .int .i64 0, .int .i64 0]), g, q, rfl, (by simp only [List.take_succ_cons, List.take_zero, List.drop_succ_cons, List.drop_zero, List.cons_append, List.nil_append]), (h1), (h2), (hL), (k0), (k1), (k2), (k3), (fun _ => ⟨_, rfl⟩), (k5), (fun _ => ⟨_, rfl⟩), (k7), (fun _ => ⟨_, rfl⟩), (k9), (fun _ => ⟨_, rfl⟩), (fun _ => ⟨_, _, _, _, _, _, _, _, rfl⟩)⟩
        · refine StepOf.plain rfl ?_
          go_light
          intro listed a w1 hI h0 ha K hK
          obtain ⟨l0, l1, l2, l3, l4, l5, l6, l7, l8, l9, l10, l11, l12, v0, v1, v2, v3, v4, v5, v6, v7, v8, v9, v10, v11, g, q, rfl, ha', h1, h2, hL, k0, k1, k2, k3, k4, k5, k6, k7, k8, k9, k10, k11⟩ := hI
          simp only [List.take_succ_cons, List.take_zero, List.drop_succ_cons, List.drop_zero, List.cons_append, List.nil_append] at ha'
          subst ha'
          have e0 : l12 = false := h0
          have g11 : l11 = true := by revert ha; cases l11 <;> simp [Region.binds]
          clear ha h0
          subst e0 g11
          obtain ⟨a0, a1, a2, a3, a4, a5, a6, a7, rfl⟩ := k11 rfl
          obtain ⟨i0, i1, i2, i3, i4, i5, i6, i7, hv⟩ := hL.var; obtain ⟨c0, c1, c2, c3, c4, c5, c6, c7⟩ := hv.eight; obtain ⟨f0, f1, f2, f3, f4, f5, f6, f7⟩ := hv.free8; clear hv
          go_simp
          refine hK.out _ _ ?_
          exact ⟨l0, l1, l2, l3, l4, l5, l6, l7, l8, l9, l10, true, true, v0, v1, v2, v3, v4, v5, v6, v7, v8, v9, v10, (.agg #[.int .i64 a0, .int .i64 a1, .int .i64 a2, .int .i64 a3, .int .i64 a4, .int .i64 a5, .int .i64 a6, .int .i64 a7]), g, q, rfl, (by simp only [List.take_succ_cons, List.take_zero, List.drop_succ_cons, List.drop_zero, List.cons_append, List.nil_append]), (h1), (h2), (hL.put _ _ _ _ _ _ _ _), (fun h => ⟨(k0 h).1, (k0 h).2.1.put8 (by have := (k0 h).2.2; omega) _ _ _ _ _ _ _ _, (k0 h).2.2⟩), (k1), (k2), (k3), (k4), (k5), (k6), (k7), (k8), (k9), (k10), (fun _ => ⟨_, _, _, _, _, _, _, _, rfl⟩)⟩
      case hend =>
        intro listed a w1 hall hI
        obtain ⟨l0, l1, l2, l3, l4, l5, l6, l7, l8, l9, l10, l11, l12, v0, v1, v2, v3, v4, v5, v6, v7, v8, v9, v10, v11, g, q, rfl, ha', h1, h2, hL, k0, k1, k2, k3, k4, k5, k6, k7, k8, k9, k10, k11⟩ := hI
        simp only [List.take_succ_cons, List.take_zero, List.drop_succ_cons, List.drop_zero, List.cons_append, List.nil_append] at ha'
        subst ha'
        have hbd : q ≤ p1 + 4 := by
          have t2 := toNat_1 l2; have t6 := toNat_1 l6; have t8 := toNat_1 l8; have t10 := toNat_1 l10; omega
        clear h2 hall k0 k1 k2 k3 k4 k5 k6 k7 k8 k9 k10 k11
        go_wp2_with fail
        go_meet
        exact ⟨_, rfl, q, by omega, by omega, hL⟩
    · clear hx
      go_wp2_with fail
      refine region_invA (fun A0 listed a w' => ∃ (l0 l1 l2 l3 l4 l5 l6 l7 l8 l9 l10 l11 l12 : Bool) (v0 v1 v2 v3 v4 v5 v6 v7 v8 v9 v10 v11 : Value) (g : Nat) (q : Int), listed = #[l0, l1, l2, l3, l4, l5, l6, l7, l8, l9, l10, l11, l12] ∧ a = ⟨(A0.tmps.toList.take 46 ++ (v0 :: v1 :: v2 :: v3 :: v4 :: v5 :: v6 :: v7 :: v8 :: v9 :: v10 :: v11 :: A0.tmps.toList.drop 58)).toArray, A0.defers⟩ ∧ p1 ≤ q ∧ q ≤ p1 + ((l2.toNat + l6.toNat + l8.toNat + l10.toNat : Nat) : Int) ∧ LI w rb q w' ∧ (l0 = true → v0 = .slice (some ⟨g, 0, none⟩) 5 5 ∧ Tab5 w' g ∧ w.heap.size + 1 < g) ∧ (l1 = true → v1 = .pointer (some ⟨rb, 0, none⟩)) ∧ (l2 = true → ∃ x : Nat, v2 = .int .i64 (x : Int) ∧ x < 5) ∧ (l3 = true → l0 = true ∧ ∃ i : Nat, v3 = .pointer (some ⟨g, i, none⟩) ∧ i < 5) ∧ (l4 = true → ∃ y : Int, v4 = .int .i64 y) ∧ (l5 = true → v5 = .pointer (some ⟨rb, 0, none⟩)) ∧ (l6 = true → ∃ y : Int, v6 = .int .i64 y) ∧ (l7 = true → v7 = .pointer (some ⟨rb, 0, none⟩)) ∧ (l8 = true → ∃ y : Int, v8 = .int .i64 y) ∧ (l9 = true → v9 = .pointer (some ⟨rb, 0, none⟩)) ∧ (l10 = true → ∃ y : Int, v10 = .int .i64 y) ∧ (l11 = true → ∃ a0 a1 a2 a3 a4 a5 a6 a7 : Int, v11 = .agg #[.int .i64 a0, .int .i64 a1, .int .i64 a2, .int .i64 a3, .int .i64 a4, .int .i64 a5, .int .i64 a6, .int .i64 a7])) (by kernel_rfl) (by kernel_rfl) ?hz ?h0 ?hs ?hend
      case hz =>
        rintro listed a w1 ⟨l0, l1, l2, l3, l4, l5, l6, l7, l8, l9, l10, l11, l12, v0, v1, v2, v3, v4, v5, v6, v7, v8, v9, v10, v11, g, q, rfl, -⟩
        rfl
      case h0 => exact ⟨false, false, false, false, false, false, false, false, false, false, false, false, false, undef, undef, undef, undef, undef, undef, undef, undef, undef, undef, undef, undef, 0, p1, rfl, (by simp only [List.take_succ_cons, List.take_zero, List.drop_succ_cons, List.drop_zero, List.cons_append, List.nil_append]), (by omega), (by simp), (HL.out.next HL.out.rd.drew (But.refl _ _).drew), (fun h => by cases h), (fun h => by cases h), (fun h => by cases h), (fun h => by cases h), (fun h => by cases h), (fun h => by cases h), (fun h => by cases h), (fun h => by cases h), (fun h => by cases h), (fun h => by cases h), (fun h => by cases h), (fun h => by cases h)⟩
      case hs =>
        refine AllSteps.cons ?_ <| AllSteps.cons ?_ <| AllSteps.cons ?_ <| AllSteps.cons ?_ <| AllSteps.cons ?_ <| AllSteps.cons ?_ <| AllSteps.cons ?_ <| AllSteps.cons ?_ <| AllSteps.cons ?_ <| AllSteps.cons ?_ <| AllSteps.cons ?_ <| AllSteps.cons ?_ <| AllSteps.cons ?_ <| AllSteps.nil
        · refine StepOf.plain rfl ?_
          go_light
          intro listed a w1 hI h0 ha K hK
          obtain ⟨l0, l1, l2, l3, l4, l5, l6, l7, l8, l9, l10, l11, l12, v0, v1, v2, v3, v4, v5, v6, v7, v8, v9, v10, v11, g, q, rfl, ha', h1, h2, hL, k0, k1, k2, k3, k4, k5, k6, k7, k8, k9, k10, k11⟩ := hI
          simp only [List.take_succ_cons, List.take_zero, List.drop_succ_cons, List.drop_zero, List.cons_append, List.nil_append] at ha'
          subst ha'
          have e0 : l0 = false := h0
          clear ha h0
          subst e0 
          go_simp
          refine hK.out _ _ ?_
          exact ⟨true, l1, l2, l3, l4, l5, l6, l7, l8, l9, l10, l11, l12, _, v1, v2, v3, v4, v5, v6, v7, v8, v9, v10, v11, w1.heap.size, q, rfl, (by simp only [List.take_succ_cons, List.take_zero, List.drop_succ_cons, List.drop_zero, List.cons_append, List.nil_append]), (h1), (h2), (hL.next (hL.rd.alloc _) ((But.refl _ _).alloc _)), (fun _ => ⟨rfl, tab5_new _ _ _ _ _ _ _, hL.lt⟩), (k1), (k2), (fun h => by cases (k3 h).1), (k4), (k5), (k6), (k7), (k8), (k9), (k10), (k11)⟩
        · refine StepOf.plain rfl ?_
          go_light
          intro listed a w1 hI h0 ha K hK
          obtain ⟨l0, l1, l2, l3, l4, l5, l6, l7, l8, l9, l10, l11, l12, v0, v1, v2, v3, v4, v5, v6, v7, v8, v9, v10, v11, g, q, rfl, ha', h1, h2, hL, k0, k1, k2, k3, k4, k5, k6, k7, k8, k9, k10, k11⟩ := hI
          simp only [List.take_succ_cons, List.take_zero, List.drop_succ_cons, List.drop_zero, List.cons_append, List.nil_append] at ha'
          subst ha'
          have e0 : l1 = false := h0
          clear ha h0
          subst e0 
          go_simp
          refine hK.out _ _ ?_
          exact ⟨l0, true, l2, l3, l4, l5, l6, l7, l8, l9, l10, l11, l12, v0, _, v2, v3, v4, v5, v6, v7, v8, v9, v10, v11, g, q, rfl, (by simp only [List.take_succ_cons, List.take_zero, List.drop_succ_cons, List.drop_zero, List.cons_append, List.nil_append]), (h1), (h2), (hL), (k0), (fun _ => rfl), (k2), (k3), (k4), (k5), (k6), (k7), (k8), (k9), (k10), (k11)⟩
        · refine StepOf.plain rfl ?_
          go_light
          intro listed a w1 hI h0 ha K hK
          obtain ⟨l0, l1, l2, l3, l4, l5, l6, l7, l8, l9, l10, l11, l12, v0, v1, v2, v3, v4, v5, v6, v7, v8, v9, v10, v11, g, q, rfl, ha', h1, h2, hL, k0, k1, k2, k3, k4, k5, k6, k7, k8, k9, k10, k11⟩ := hI
          simp only [List.take_succ_cons, List.take_zero, List.drop_succ_cons, List.drop_zero, List.cons_append, List.nil_append] at ha'
          subst ha'
          have e0 : l2 = false := h0
          have g1 : l1 = true := by revert ha; cases l1 <;> simp [Region.binds]
          clear ha h0
          subst e0 g1
          obtain rfl := k1 rfl
          go_simp
          have hbd : q ≤ p1 + 3 := by
            have t2 := toNat_1 false; have t6 := toNat_1 l6; have t8 := toNat_1 l8; have t10 := toNat_1 l10; simp only [Bool.toNat_false, Bool.toNat_true] at h2 t2 t6 t8 t10; omega
          refine (pick_s rb q 5 _ hL.rd (by omega) (by unfold I64; omega)).mono ?_
          rintro e w2 ⟨x, q', rfl, hx, hqa, hqb, hR2, hb2⟩
          have hx0 := hx.1; have hx1 := hx.2.1 (by omega); clear hx
          obtain ⟨x, rfl⟩ := Int.eq_ofNat_of_zero_le hx0
          go_wp2_with fail
          refine hK.out _ _ ?_
          exact ⟨l0, true, true, l3, l4, l5, l6, l7, l8, l9, l10, l11, l12, v0, _, (.int .i64 (x : Int)), v3, v4, v5, v6, v7, v8, v9, v10, v11, g, q', rfl, (by simp only [List.take_succ_cons, List.take_zero, List.drop_succ_cons, List.drop_zero, List.cons_append, List.nil_append]), (by omega), (by simp only [Bool.toNat_false, Bool.toNat_true] at h2 ⊢; omega), (hL.next hR2 hb2), (fun h => ⟨(k0 h).1, (k0 h).2.1.but hb2 (by have := (k0 h).2.2; have := hL.hr; omega), (k0 h).2.2⟩), (fun _ => rfl), (fun _ => ⟨x, rfl, by omega⟩), (k3), (k4), (k5), (k6), (k7), (k8), (k9), (k10), (k11)⟩
        · refine StepOf.plain rfl ?_
          go_light
          intro listed a w1 hI h0 ha K hK
          obtain ⟨l0, l1, l2, l3, l4, l5, l6, l7, l8, l9, l10, l11, l12, v0, v1, v2, v3, v4, v5, v6, v7, v8, v9, v10, v11, g, q, rfl, ha', h1, h2, hL, k0, k1, k2, k3, k4, k5, k6, k7, k8, k9, k10, k11⟩ := hI
          simp only [List.take_succ_cons, List.take_zero, List.drop_succ_cons, List.drop_zero, List.cons_append, List.nil_append] at ha'
          subst ha'
          have e0 : l3 = false := h0
          have g0 : l0 = true := by revert ha; cases l0 <;> simp [Region.binds]
          have g2 : l2 = true := by revert ha; cases l2 <;> simp [Region.binds]
          clear ha h0
          subst e0 g0 g2
          obtain ⟨rfl, T0, G0⟩ := k0 rfl
          obtain ⟨x, rfl, hx5⟩ := k2 rfl
          have j0 : (0 : Int) ≤ (x : Int) := by omega
          have j1 : (x : Int) < 5 := by omega
          go_simp
          refine hK.out _ _ ?_
          exact ⟨true, l1, true, true, l4, l5, l6, l7, l8, l9, l10, l11, l12, _, v1, _, (.pointer (some ⟨g, x, none⟩)), v4, v5, v6, v7, v8, v9, v10, v11, g, q, rfl, (by simp only [List.take_succ_cons, List.take_zero, List.drop_succ_cons, List.drop_zero, List.cons_append, List.nil_append]), (h1), (h2), (hL), (fun _ => ⟨rfl, T0, G0⟩), (k1), (fun _ => ⟨x, rfl, hx5⟩), (fun _ => ⟨rfl, _, rfl, by omega⟩), (k4), (k5), (k6), (k7), (k8), (k9), (k10), (k11)⟩
        · refine StepOf.plain rfl ?_
          go_light
          intro listed a w1 hI h0 ha K hK
          obtain ⟨l0, l1, l2, l3, l4, l5, l6, l7, l8, l9, l10, l11, l12, v0, v1, v2, v3, v4, v5, v6, v7, v8, v9, v10, v11, g, q, rfl, ha', h1, h2, hL, k0, k1, k2, k3, k4, k5, k6, k7, k8, k9, k10, k11⟩ := hI
          simp only [List.take_succ_cons, List.take_zero, List.drop_succ_cons, List.drop_zero, List.cons_append, List.nil_append] at ha'
          subst ha'
          have e0 : l4 = false := h0
          have g3 : l3 = true := by revert ha; cases l3 <;> simp [Region.binds]
          clear ha h0
          subst e0 g3
          obtain ⟨rfl, y, rfl, hy⟩ := k3 rfl
          obtain ⟨rfl, T0, G0⟩ := k0 rfl
          obtain ⟨u, hu⟩ := T0 y hy
          go_simp
          refine hK.out _ _ ?_
          exact ⟨true, l1, l2, true, true, l5, l6, l7, l8, l9, l10, l11, l12, _, v1, v2, _, (.int .i64 u), v5, v6, v7, v8, v9, v10, v11, g, q, rfl, (by simp only [List.take_succ_cons, List.take_zero, List.drop_succ_cons, List.drop_zero, List.cons_append, List.nil_append]), (h1), (h2), (hL), (fun _ => ⟨rfl, T0, G0⟩), (k1), (k2), (fun _ => ⟨rfl, y, rfl, hy⟩), (fun _ => ⟨_, rfl⟩), (k5), (k6), (k7), (k8), (k9), (k10), (k11)⟩
        · refine StepOf.plain rfl ?_
          go_light
          intro listed a w1 hI h0 ha K hK
          obtain ⟨l0, l1, l2, l3, l4, l5, l6, l7, l8, l9, l10, l11, l12, v0, v1, v2, v3, v4, v5, v6, v7, v8, v9, v10, v11, g, q, rfl, ha', h1, h2, hL, k0, k1, k2, k3, k4, k5, k6, k7, k8, k9, k10, k11⟩ := hI
          simp only [List.take_succ_cons, List.take_zero, List.drop_succ_cons, List.drop_zero, List.cons_append, List.nil_append] at ha'
          subst ha'
          have e0 : l5 = false := h0
          clear ha h0
          subst e0 
          go_simp
          refine hK.out _ _ ?_
          exact ⟨l0, l1, l2, l3, l4, true, l6, l7, l8, l9, l10, l11, l12, v0, v1, v2, v3, v4, _, v6, v7, v8, v9, v10, v11, g, q, rfl, (by simp only [List.take_succ_cons, List.take_zero, List.drop_succ_cons, List.drop_zero, List.cons_append, List.nil_append]), (h1), (h2), (hL), (k0), (k1), (k2), (k3), (k4), (fun _ => rfl), (k6), (k7), (k8), (k9), (k10), (k11)⟩
        · refine StepOf.plain rfl ?_
          go_light
          intro listed a w1 hI h0 ha K hK
          obtain ⟨l0, l1, l2, l3, l4, l5, l6, l7, l8, l9, l10, l11, l12, v0, v1, v2, v3, v4, v5, v6, v7, v8, v9, v10, v11, g, q, rfl, ha', h1, h2, hL, k0, k1, k2, k3, k4, k5, k6, k7, k8, k9, k10, k11⟩ := hI
          simp only [List.take_succ_cons, List.take_zero, List.drop_succ_cons, List.drop_zero, List.cons_append, List.nil_append] at ha'
          subst ha'
          have e0 : l6 = false := h0
          have g5 : l5 = true := by revert ha; cases l5 <;> simp [Region.binds]
          have g2 : l2 = true := by revert ha; cases l2 <;> simp [Region.binds]
          clear ha h0
          subst e0 g5 g2
          obtain rfl := k5 rfl
          go_simp
          have hbd : q ≤ p1 + 3 := by
            have t2 := toNat_1 true; have t6 := toNat_1 false; have t8 := toNat_1 l8; have t10 := toNat_1 l10; simp only [Bool.toNat_false, Bool.toNat_true] at h2 t2 t6 t8 t10; omega
          refine (pick_s rb q 4 _ hL.rd (by omega) (by unfold I64; omega)).mono ?_
          rintro e w2 ⟨x, q', rfl, hx, hqa, hqb, hR2, hb2⟩
          have hx0 := hx.1; have hx1 := hx.2.1 (by omega); clear hx
          obtain ⟨x, rfl⟩ := Int.eq_ofNat_of_zero_le hx0
          go_wp2_with fail
          refine hK.out _ _ ?_
          exact ⟨l0, l1, true, l3, l4, true, true, l7, l8, l9, l10, l11, l12, v0, v1, v2, v3, v4, _, (.int .i64 (x : Int)), v7, v8, v9, v10, v11, g, q', rfl, (by simp only [List.take_succ_cons, List.take_zero, List.drop_succ_cons, List.drop_zero, List.cons_append, List.nil_append]), (by omega), (by simp only [Bool.toNat_false, Bool.toNat_true] at h2 ⊢; omega), (hL.next hR2 hb2), (fun h => ⟨(k0 h).1, (k0 h).2.1.but hb2 (by have := (k0 h).2.2; have := hL.hr; omega), (k0 h).2.2⟩), (k1), (fun _ => k2 (by trivial)), (k3), (k4), (fun _ => rfl), (fun _ => ⟨_, rfl⟩), (k7), (k8), (k9), (k10), (k11)⟩
        · refine StepOf.plain rfl ?_
          go_light
          intro listed a w1 hI h0 ha K hK
          obtain ⟨l0, l1, l2, l3, l4, l5, l6, l7, l8, l9, l10, l11, l12, v0, v1, v2, v3, v4, v5, v6, v7, v8, v9, v10, v11, g, q, rfl, ha', h1, h2, hL, k0, k1, k2, k3, k4, k5, k6, k7, k8, k9, k10, k11⟩ := hI
          simp only [List.take_succ_cons, List.take_zero, List.drop_succ_cons, List.drop_zero, List.cons_append, List.nil_append] at ha'
          subst ha'
          have e0 : l7 = false := h0
          clear ha h0
          subst e0 
          go_simp
          refine hK.out _ _ ?_
          exact ⟨l0, l1, l2, l3, l4, l5, l6, true, l8, l9, l10, l11, l12, v0, v1, v2, v3, v4, v5, v6, _, v8, v9, v10, v11, g, q, rfl, (by simp only [List.take_succ_cons, List.take_zero, List.drop_succ_cons, List.drop_zero, List.cons_append, List.nil_append]), (h1), (h2), (hL), (k0), (k1), (k2), (k3), (k4), (k5), (k6), (fun _ => rfl), (k8), (k9), (k10), (k11)⟩
        · refine StepOf.plain rfl ?_
          go_light
          intro listed a w1 hI h0 ha K hK
          obtain ⟨l0, l1, l2, l3, l4, l5, l6, l7, l8, l9, l10, l11, l12, v0, v1, v2, v3, v4, v5, v6, v7, v8, v9, v10, v11, g, q, rfl, ha', h1, h2, hL, k0, k1, k2, k3, k4, k5, k6, k7, k8, k9, k10, k11⟩ := hI
          simp only [List.take_succ_cons, List.take_zero, List.drop_succ_cons, List.drop_zero, List.cons_append, List.nil_append] at ha'
          subst ha'
          have e0 : l8 = false := h0
          have g7 : l7 = true := by revert ha; cases l7 <;> simp [Region.binds]
          have g6 : l6 = true := by revert ha; cases l6 <;> simp [Region.binds]
          clear ha h0
          subst e0 g7 g6
          obtain rfl := k7 rfl
          go_simp
          have hbd : q ≤ p1 + 3 := by
            have t2 := toNat_1 l2; have t6 := toNat_1 true; have t8 := toNat_1 false; have t10 := toNat_1 l10; simp only [Bool.toNat_false, Bool.toNat_true] at h2 t2 t6 t8 t10; omega
          refine (pick_s rb q 4 _ hL.rd (by omega) (by unfold I64; omega)).mono ?_
          rintro e w2 ⟨x, q', rfl, hx, hqa, hqb, hR2, hb2⟩
          have hx0 := hx.1; have hx1 := hx.2.1 (by omega); clear hx
          obtain ⟨x, rfl⟩ := Int.eq_ofNat_of_zero_le hx0
          go_wp2_with fail
          refine hK.out _ _ ?_
          exact ⟨l0, l1, l2, l3, l4, l5, true, true, true, l9, l10, l11, l12, v0, v1, v2, v3, v4, v5, v6, _, (.int .i64 (x : Int)), v9, v10, v11, g, q', rfl, (by simp only [List.take_succ_cons, List.take_zero, List.drop_succ_cons, List.drop_zero, List.cons_append, List.nil_append]), (by omega), (by simp only [Bool.toNat_false, Bool.toNat_true] at h2 ⊢; omega), (hL.next hR2 hb2), (fun h => ⟨(k0 h).1, (k0 h).2.1.but hb2 (by have := (k0 h).2.2; have := hL.hr; omega), (k0 h).2.2⟩), (k1), (k2), (k3), (k4), (k5), (fun _ => k6 (by trivial)), (fun _ => rfl), (fun _ => ⟨_, rfl⟩), (k9), (k10), (k11)⟩
        · refine StepOf.plain rfl ?_
          go_light
          intro listed a w1 hI h0 ha K hK
          obtain ⟨l0, l1, l2, l3, l4, l5, l6, l7, l8, l9, l10, l11, l12, v0, v1, v2, v3, v4, v5, v6, v7, v8, v9, v10, v11, g, q, rfl, ha', h1, h2, hL, k0, k1, k2, k3, k4, k5, k6, k7, k8, k9, k10, k11⟩ := hI
          simp only [List.take_succ_cons, List.take_zero, List.drop_succ_cons, List.drop_zero, List.cons_append, List.nil_append] at ha'
          subst ha'
          have e0 : l9 = false := h0
          clear ha h0
          subst e0 
          go_simp
          refine hK.out _ _ ?_
          exact ⟨l0, l1, l2, l3, l4, l5, l6, l7, l8, true, l10, l11, l12, v0, v1, v2, v3, v4, v5, v6, v7, v8, _, v10, v11, g, q, rfl, (by simp only [List.take_succ_cons, List.take_zero, List.drop_succ_cons, List.drop_zero, List.cons_append, List.nil_append]), (h1), (h2), (hL), (k0), (k1), (k2), (k3), (k4), (k5), (k6), (k7), (k8), (fun _ => rfl), (k10), (k11)⟩
        · refine StepOf.plain rfl ?_
          go_light
          intro listed a w1 hI h0 ha K hK
          obtain ⟨l0, l1, l2, l3, l4, l5, l6, l7, l8, l9, l10, l11, l12, v0, v1, v2, v3, v4, v5, v6, v7, v8, v9, v10, v11, g, q, rfl, ha', h1, h2, hL, k0, k1, k2, k3, k4, k5, k6, k7, k8, k9, k10, k11⟩ := hI
          simp only [List.take_succ_cons, List.take_zero, List.drop_succ_cons, List.drop_zero, List.cons_append, List.nil_append] at ha'
          subst ha'
          have e0 : l10 = false := h0
          have g9 : l9 = true := by revert ha; cases l9 <;> simp [Region.binds]
          have g8 : l8 = true := by revert ha; cases l8 <;> simp [Region.binds]
          clear ha h0
          subst e0 g9 g8
          obtain rfl := k9 rfl
          go_simp
          have hbd : q ≤ p1 + 3 := by
            have t2 := toNat_1 l2; have t6 := toNat_1 l6; have t8 := toNat_1 true; have t10 := toNat_1 false; simp only [Bool.toNat_false, Bool.toNat_true] at h2 t2 t6 t8 t10; omega
          refine (pick_s rb q 4 _ hL.rd (by omega) (by unfold I64; omega)).mono ?_
          rintro e w2 ⟨x, q', rfl, hx, hqa, hqb, hR2, hb2⟩
          have hx0 := hx.1; have hx1 := hx.2.1 (by omega); clear hx
          obtain ⟨x, rfl⟩ := Int.eq_ofNat_of_zero_le hx0
          go_wp2_with fail
          refine hK.out _ _ ?_
          exact ⟨l0, l1, l2, l3, l4, l5, l6, l7, true, true, true, l11, l12, v0, v1, v2, v3, v4, v5, v6, v7, v8, _, (.int .i64 (x : Int)), v11, g, q', rfl, (by simp only [List.take_succ_cons, List.take_zero, List.drop_succ_cons, List.drop_zero, List.cons_append, List.nil_append]), (by omega), (by simp only [Bool.toNat_false, Bool.toNat_true] at h2 ⊢; omega), (hL.next hR2 hb2), (fun h => ⟨(k0 h).1, (k0 h).2.1.but hb2 (by have := (k0 h).2.2; have := hL.hr; omega), (k0 h).2.2⟩), (k1), (k2), (k3), (k4), (k5), (k6), (k7), (fun _ => k8 (by trivial)), (fun _ => rfl), (fun _ => ⟨_, rfl⟩), (k11)⟩
        · refine StepOf.plain rfl ?_
          go_light
          intro listed a w1 hI h0 ha K hK
          obtain ⟨l0, l1, l2, l3, l4, l5, l6, l7, l8, l9, l10, l11, l12, v0, v1, v2, v3, v4, v5, v6, v7, v8, v9, v10, v11, g, q, rfl, ha', h1, h2, hL, k0, k1, k2, k3, k4, k5, k6, k7, k8, k9, k10, k11⟩ := hI
          simp only [List.take_succ_cons, List.take_zero, List.drop_succ_cons, List.drop_zero, List.cons_append, List.nil_append] at ha'
          subst ha'
          have e0 : l11 = false := h0
          have g4 : l4 = true := by revert ha; cases l4 <;> simp [Region.binds]
          have g6 : l6 = true := by revert ha; cases l6 <;> simp [Region.binds]
          have g8 : l8 = true := by revert ha; cases l8 <;> simp [Region.binds]
          have g10 : l10 = true := by revert ha; cases l10 <;> simp [Region.binds]
          clear ha h0
          subst e0 g4 g6 g8 g10
          obtain ⟨y4, rfl⟩ := k4 rfl
          obtain ⟨y6, rfl⟩ := k6 rfl
          obtain ⟨y8, rfl⟩ := k8 rfl
          obtain ⟨y10, rfl⟩ := k10 rfl
          go_simp
          refine hK.out _ _ ?_
          exact ⟨l0, l1, l2, l3, true, l5, true, l7, true, l9, true, true, l12, v0, v1, v2, v3, (.int .i64 y4), v5, (.int .i64 y6), v7, (.int .i64 y8), v9, (.int .i64 y10), (.agg #[.int .i64 y4, .int .i64 y6, .int .i64 y8, .int .i64 y10, .int .i64 0, .int .i64 0, .int .i64 0, .int .i64 0]), g, q, rfl, (by simp only [List.take_succ_cons, List.take_zero, List.drop_succ_cons, List.drop_zero, List.cons_append, List.nil_append]), (h1), (h2), (hL), (k0), (k1), (k2), (k3), (fun _ => ⟨_, rfl⟩), (k5), (fun _ => ⟨_, rfl⟩), (k7), (fun _ => ⟨_, rfl⟩), (k9), (fun _ => ⟨_, rfl⟩), (fun _ => ⟨_, _, _, _, _, _, _, _, rfl⟩)⟩
        · refine StepOf.plain rfl ?_
          go_light
          intro listed a w1 hI h0 ha K hK
          obtain ⟨l0, l1, l2, l3, l4, l5, l6, l7, l8, l9, l10, l11, l12, v0, v1, v2, v3, v4, v5, v6, v7, v8, v9, v10, v11, g, q, rfl, ha', h1, h2, hL, k0, k1, k2, k3, k4, k5, k6, k7, k8, k9, k10, k11⟩ := hI
          simp only [List.take_succ_cons, List.take_zero, List.drop_succ_cons, List.drop_zero, List.cons_append, List.nil_append] at ha'
          subst ha'
          have e0 : l12 = false := h0
          have g11 : l11 = true := by revert ha; cases l11 <;> simp [Region.binds]
          clear ha h0
          subst e0 g11
          obtain ⟨a0, a1, a2, a3, a4, a5, a6, a7, rfl⟩ := k11 rfl
          obtain ⟨i0, i1, i2, i3, i4, i5, i6, i7, hv⟩ := hL.var; obtain ⟨c0, c1, c2, c3, c4, c5, c6, c7⟩ := hv.eight; obtain ⟨f0, f1, f2, f3, f4, f5, f6, f7⟩ := hv.free8; clear hv
          go_simp
          refine hK.out _ _ ?_
          exact ⟨l0, l1, l2, l3, l4, l5, l6, l7, l8, l9, l10, true, true, v0, v1, v2, v3, v4, v5, v6, v7, v8, v9, v10, (.agg #[.int .i64 a0, .int .i64 a1, .int .i64 a2, .int .i64 a3, .int .i64 a4, .int .i64 a5, .int .i64 a6, .int .i64 a7]), g, q, rfl, (by simp only [List.take_succ_cons, List.take_zero, List.drop_succ_cons, List.drop_zero, List.cons_append, List.nil_append]), (h1), (h2), (hL.put _ _ _ _ _ _ _ _), (fun h => ⟨(k0 h).1, (k0 h).2.1.put8 (by have := (k0 h).2.2; omega) _ _ _ _ _ _ _ _, (k0 h).2.2⟩), (k1), (k2), (k3), (k4), (k5), (k6), (k7), (k8), (k9), (k10), (fun _ => ⟨_, _, _, _, _, _, _, _, rfl⟩)⟩
      case hend =>
        intro listed a w1 hall hI
        obtain ⟨l0, l1, l2, l3, l4, l5, l6, l7, l8, l9, l10, l11, l12, v0, v1, v2, v3, v4, v5, v6, v7, v8, v9, v10, v11, g, q, rfl, ha', h1, h2, hL, k0, k1, k2, k3, k4, k5, k6, k7, k8, k9, k10, k11⟩ := hI
        simp only [List.take_succ_cons, List.take_zero, List.drop_succ_cons, List.drop_zero, List.cons_append, List.nil_append] at ha'
        subst ha'
        have hbd : q ≤ p1 + 4 := by
          have t2 := toNat_1 l2; have t6 := toNat_1 l6; have t8 := toNat_1 l8; have t10 := toNat_1 l10; omega
        clear h2 hall k0 k1 k2 k3 k4 k5 k6 k7 k8 k9 k10 k11
        go_wp2_with fail
        go_meet
        exact ⟨_, rfl, q, by omega, by omega, hL⟩
    · clear hx
      go_wp2_with fail
      refine region_invA (fun A0 listed a w' => ∃ (l0 l1 l2 l3 l4 l5 l6 l7 l8 l9 l10 l11 l12 : Bool) (v0 v1 v2 v3 v4 v5 v6 v7 v8 v9 v10 v11 : Value) (g : Nat) (q : Int), listed = #[l0, l1, l2, l3, l4, l5, l6, l7, l8, l9, l10, l11, l12] ∧ a = ⟨(A0.tmps.toList.take 46 ++ (v0 :: v1 :: v2 :: v3 :: v4 :: v5 :: v6 :: v7 :: v8 :: v9 :: v10 :: v11 :: A0.tmps.toList.drop 58)).toArray, A0.defers⟩ ∧ p1 ≤ q ∧ q ≤ p1 + ((l2.toNat + l6.toNat + l8.toNat + l10.toNat : Nat) : Int) ∧ LI w rb q w' ∧ (l0 = true → v0 = .slice (some ⟨g, 0, none⟩) 5 5 ∧ Tab5 w' g ∧ w.heap.size + 1 < g) ∧ (l1 = true → v1 = .pointer (some ⟨rb, 0, none⟩)) ∧ (l2 = true → ∃ x : Nat, v2 = .int .i64 (x : Int) ∧ x < 5) ∧ (l3 = true → l0 = true ∧ ∃ i : Nat, v3 = .pointer (some ⟨g, i, none⟩) ∧ i < 5) ∧ (l4 = true → ∃ y : Int, v4 = .int .i64 y) ∧ (l5 = true → v5 = .pointer (some ⟨rb, 0, none⟩)) ∧ (l6 = true → ∃ y : Int, v6 = .int .i64 y) ∧ (l7 = true → v7 = .pointer (some ⟨rb, 0, none⟩)) ∧ (l8 = true → ∃ y : Int, v8 = .int .i64 y) ∧ (l9 = true → v9 = .pointer (some ⟨rb, 0, none⟩)) ∧ (l10 = true → ∃ y : Int, v10 = .int .i64 y) ∧ (l11 = true → ∃ a0 a1 a2 a3 a4 a5 a6 a7 : Int, v11 = .agg #[.int .i64 a0, .int .i64 a1, .int .i64 a2, .int .i64 a3, .int .i64 a4, .int .i64 a5, .int .i64 a6, .int .i64 a7])) (by kernel_rfl) (by kernel_rfl) ?hz ?h0 ?hs ?hend
      case hz =>
        rintro listed a w1 ⟨l0, l1, l2, l3, l4, l5, l6, l7, l8, l9, l10, l11, l12, v0, v1, v2, v3, v4, v5, v6, v7, v8, v9, v10, v11, g, q, rfl, -⟩
        rfl
      case h0 => exact ⟨false, false, false, false, false, false, false, false, false, false, false, false, false, undef, undef, undef, undef, undef, undef, undef, undef, undef, undef, undef, undef, 0, p1, rfl, (by simp only [List.take_succ_cons, List.take_zero, List.drop_succ_cons, List.drop_zero, List.cons_append, List.nil_append]), (by omega), (by simp), (HL.out.next HL.out.rd.drew (But.refl _ _).drew), (fun h => by cases h), (fun h => by cases h), (fun h => by cases h), (fun h => by cases h), (fun h => by cases h), (fun h => by cases h), (fun h => by cases h), (fun h => by cases h), (fun h => by cases h), (fun h => by cases h), (fun h => by cases h), (fun h => by cases h)⟩
      case hs =>
        refine AllSteps.cons ?_ <| AllSteps.cons ?_ <| AllSteps.cons ?_ <| AllSteps.cons ?_ <| AllSteps.cons ?_ <| AllSteps.cons ?_ <| AllSteps.cons ?_ <| AllSteps.cons ?_ <| AllSteps.cons ?_ <| AllSteps.cons ?_ <| AllSteps.cons ?_ <| AllSteps.cons ?_ <| AllSteps.cons ?_ <| AllSteps.nil
        · refine StepOf.plain rfl ?_
          go_light
          intro listed a w1 hI h0 ha K hK
          obtain ⟨l0, l1, l2, l3, l4, l5, l6, l7, l8, l9, l10, l11, l12, v0, v1, v2, v3, v4, v5, v6, v7, v8, v9, v10, v11, g, q, rfl, ha', h1, h2, hL, k0, k1, k2, k3, k4, k5, k6, k7, k8, k9, k10, k11⟩ := hI
          simp only [List.take_succ_cons, List.take_zero, List.drop_succ_cons, List.drop_zero, List.cons_append, List.nil_append] at ha'
          subst ha'
          have e0 : l0 = false := h0
          clear ha h0
          subst e0 
          go_simp
          refine hK.out _ _ ?_
          exact ⟨true, l1, l2, l3, l4, l5, l6, l7, l8, l9, l10, l11, l12, _, v1, v2, v3, v4, v5, v6, v7, v8, v9, v10, v11, w1.heap.size, q, rfl, (by simp only [List.take_succ_cons, List.take_zero, List.drop_succ_cons, List.drop_zero, List.cons_append, List.nil_append]), (h1), (h2), (hL.next (hL.rd.alloc _) ((But.refl _ _).alloc _)), (fun _ => ⟨rfl, tab5_new _ _ _ _ _ _ _, hL.lt⟩), (k1), (k2), (fun h => by cases (k3 h).1), (k4), (k5), (k6), (k7), (k8), (k9), (k10), (k11)⟩
        · refine StepOf.plain rfl ?_
          go_light
          intro listed a w1 hI h0 ha K hK
          obtain ⟨l0, l1, l2, l3, l4, l5, l6, l7, l8, l9, l10, l11, l12, v0, v1, v2, v3, v4, v5, v6, v7, v8, v9, v10, v11, g, q, rfl, ha', h1, h2, hL, k0, k1, k2, k3, k4, k5, k6, k7, k8, k9, k10, k11⟩ := hI
          simp only [List.take_succ_cons, List.take_zero, List.drop_succ_cons, List.drop_zero, List.cons_append, List.nil_append] at ha'
          subst ha'
          have e0 : l1 = false := h0
          clear ha h0
          subst e0 
          go_simp
          refine hK.out _ _ ?_
          exact ⟨l0, true, l2, l3, l4, l5, l6, l7, l8, l9, l10, l11, l12, v0, _, v2, v3, v4, v5, v6, v7, v8, v9, v10, v11, g, q, rfl, (by simp only [List.take_succ_cons, List.take_zero, List.drop_succ_cons, List.drop_zero, List.cons_append, List.nil_append]), (h1), (h2), (hL), (k0), (fun _ => rfl), (k2), (k3), (k4), (k5), (k6), (k7), (k8), (k9), (k10), (k11)⟩
        · refine StepOf.plain rfl ?_
          go_light
          intro listed a w1 hI h0 ha K hK
          obtain ⟨l0, l1, l2, l3, l4, l5, l6, l7, l8, l9, l10, l11, l12, v0, v1, v2, v3, v4, v5, v6, v7, v8, v9, v10, v11, g, q, rfl, ha', h1, h2, hL, k0, k1, k2, k3, k4, k5, k6, k7, k8, k9, k10, k11⟩ := hI
          simp only [List.take_succ_cons, List.take_zero, List.drop_succ_cons, List.drop_zero, List.cons_append, List.nil_append] at ha'
          subst ha'
          have e0 : l2 = false := h0
          have g1 : l1 = true := by revert ha; cases l1 <;> simp [Region.binds]
          clear ha h0
          subst e0 g1
          obtain rfl := k1 rfl
          go_simp
          have hbd : q ≤ p1 + 3 := by
            have t2 := toNat_1 false; have t6 := toNat_1 l6; have t8 := toNat_1 l8; have t10 := toNat_1 l10; simp only [Bool.toNat_false, Bool.toNat_true] at h2 t2 t6 t8 t10; omega
          refine (pick_s rb q 5 _ hL.rd (by omega) (by unfold I64; omega)).mono ?_
          rintro e w2 ⟨x, q', rfl, hx, hqa, hqb, hR2, hb2⟩
          have hx0 := hx.1; have hx1 := hx.2.1 (by omega); clear hx
          obtain ⟨x, rfl⟩ := Int.eq_ofNat_of_zero_le hx0
          go_wp2_with fail
          refine hK.out _ _ ?_
          exact ⟨l0, true, true, l3, l4, l5, l6, l7, l8, l9, l10, l11, l12, v0, _, (.int .i64 (x : Int)), v3, v4, v5, v6, v7, v8, v9, v10, v11, g, q', rfl, (by simp only [List.take_succ_cons, List.take_zero, List.drop_succ_cons, List.drop_zero, List.cons_append, List.nil_append]), (by omega), (by simp only [Bool.toNat_false, Bool.toNat_true] at h2 ⊢; omega), (hL.next hR2 hb2), (fun h => ⟨(k0 h).1, (k0 h).2.1.but hb2 (by have := (k0 h).2.2; have := hL.hr; omega), (k0 h).2.2⟩), (fun _ => rfl), (fun _ => ⟨x, rfl, by omega⟩), (k3), (k4), (k5), (k6), (k7), (k8), (k9), (k10), (k11)⟩
        · refine StepOf.plain rfl ?_
          go_light
          intro listed a w1 hI h0 ha K hK
          obtain ⟨l0, l1, l2, l3, l4, l5, l6, l7, l8, l9, l10, l11, l12, v0, v1, v2, v3, v4, v5, v6, v7, v8, v9, v10, v11, g, q, rfl, ha', h1, h2, hL, k0, k1, k2, k3, k4, k5, k6, k7, k8, k9, k10, k11⟩ := hI
          simp only [List.take_succ_cons, List.take_zero, List.drop_succ_cons, List.drop_zero, List.cons_append, List.nil_append] at ha'
          subst ha'
          have e0 : l3 = false := h0
          have g0 : l0 = true := by revert ha; cases l0 <;> simp [Region.binds]
          have g2 : l2 = true := by revert ha; cases l2 <;> simp [Region.binds]
          clear ha h0
          subst e0 g0 g2
          obtain ⟨rfl, T0, G0⟩ := k0 rfl
          obtain ⟨x, rfl, hx5⟩ := k2 rfl
          have j0 : (0 : Int) ≤ (x : Int) := by omega
          have j1 : (x : Int) < 5 := by omega
          go_simp
          refine hK.out _ _ ?_
          exact ⟨true, l1, true, true, l4, l5, l6, l7, l8, l9, l10, l11, l12, _, v1, _, (.pointer (some ⟨g, x, none⟩)), v4, v5, v6, v7, v8, v9, v10, v11, g, q, rfl, (by simp only [List.take_succ_cons, List.take_zero, List.drop_succ_cons, List.drop_zero, List.cons_append, List.nil_append]), (h1), (h2), (hL), (fun _ => ⟨rfl, T0, G0⟩), (k1), (fun _ => ⟨x, rfl, hx5⟩), (fun _ => ⟨rfl, _, rfl, by omega⟩), (k4), (k5), (k6), (k7), (k8), (k9), (k10), (k11)⟩
        · refine StepOf.plain rfl ?_
          go_light
          intro listed a w1 hI h0 ha K hK
          obtain ⟨l0, l1, l2, l3, l4, l5, l6, l7, l8, l9, l10, l11, l12, v0, v1, v2, v3, v4, v5, v6, v7, v8, v9, v10, v11, g, q, rfl, ha', h1, h2, hL, k0, k1, k2, k3, k4, k5, k6, k7, k8, k9, k10, k11⟩ := hI
          simp only [List.take_succ_cons, List.take_zero, List.drop_succ_cons, List.drop_zero, List.cons_append, List.nil_append] at ha'
          subst ha'
          have e0 : l4 = false := h0
          have g3 : l3 = true := by revert ha; cases l3 <;> simp [Region.binds]
          clear ha h0
          subst e0 g3
          obtain ⟨rfl, y, rfl, hy⟩ := k3 rfl
          obtain ⟨rfl, T0, G0⟩ := k0 rfl
          obtain ⟨u, hu⟩ := T0 y hy
          go_simp
          refine hK.out _ _ ?_
          exact ⟨true, l1, l2, true, true, l5, l6, l7, l8, l9, l10, l11, l12, _, v1, v2, _, (.int .i64 u), v5, v6, v7, v8, v9, v10, v11, g, q, rfl, (by simp only [List.take_succ_cons, List.take_zero, List.drop_succ_cons, List.drop_zero, List.cons_append, List.nil_append]), (h1), (h2), (hL), (fun _ => ⟨rfl, T0, G0⟩), (k1), (k2), (fun _ => ⟨rfl, y, rfl, hy⟩), (fun _ => ⟨_, rfl⟩), (k5), (k6), (k7), (k8), (k9), (k10), (k11)⟩
        · refine StepOf.plain rfl ?_
          go_light
          intro listed a w1 hI h0 ha K hK
          obtain ⟨l0, l1, l2, l3, l4, l5, l6, l7, l8, l9, l10, l11, l12, v0, v1, v2, v3, v4, v5, v6, v7, v8, v9, v10, v11, g, q, rfl, ha', h1, h2, hL, k0, k1, k2, k3, k4, k5, k6, k7, k8, k9, k10, k11⟩ := hI
          simp only [List.take_succ_cons, List.take_zero, List.drop_succ_cons, List.drop_zero, List.cons_append, List.nil_append] at ha'
          subst ha'
          have e0 : l5 = false := h0
          clear ha h0
          subst e0 
          go_simp
          refine hK.out _ _ ?_
          exact ⟨l0, l1, l2, l3, l4, true, l6, l7, l8, l9, l10, l11, l12, v0, v1, v2, v3, v4, _, v6, v7, v8, v9, v10, v11, g, q, rfl, (by simp only [List.take_succ_cons, List.take_zero, List.drop_succ_cons, List.drop_zero, List.cons_append, List.nil_append]), (h1), (h2), (hL), (k0), (k1), (k2), (k3), (k4), (fun _ => rfl), (k6), (k7), (k8), (k9), (k10), (k11)⟩
        · refine StepOf.plain rfl ?_
          go_light
          intro listed a w1 hI h0 ha K hK
          obtain ⟨l0, l1, l2, l3, l4, l5, l6, l7, l8, l9, l10, l11, l12, v0, v1, v2, v3, v4, v5, v6, v7, v8, v9, v10, v11, g, q, rfl, ha', h1, h2, hL, k0, k1, k2, k3, k4, k5, k6, k7, k8, k9, k10, k11⟩ := hI
          simp only [List.take_succ_cons, List.take_zero, List.drop_succ_cons, List.drop_zero, List.cons_append, List.nil_append] at ha'
          subst ha'
          have e0 : l6 = false := h0
          have g5 : l5 = true := by revert ha; cases l5 <;> simp [Region.binds]
          have g2 : l2 = true := by revert ha; cases l2 <;> simp [Region.binds]
          clear ha h0
          subst e0 g5 g2
          obtain rfl := k5 rfl
          go_simp
          have hbd : q ≤ p1 + 3 := by
            have t2 := toNat_1 true; have t6 := toNat_1 false; have t8 := toNat_1 l8; have t10 := toNat_1 l10; simp only [Bool.toNat_false, Bool.toNat_true] at h2 t2 t6 t8 t10; omega
          refine (pick_s rb q 4 _ hL.rd (by omega) (by unfold I64; omega)).mono ?_
          rintro e w2 ⟨x, q', rfl, hx, hqa, hqb, hR2, hb2⟩
          have hx0 := hx.1; have hx1 := hx.2.1 (by omega); clear hx
          obtain ⟨x, rfl⟩ := Int.eq_ofNat_of_zero_le hx0
          go_wp2_with fail
          refine hK.out _ _ ?_
          exact ⟨l0, l1, true, l3, l4, true, true, l7, l8, l9, l10, l11, l12, v0, v1, v2, v3, v4, _, (.int .i64 (x : Int)), v7, v8, v9, v10, v11, g, q', rfl, (by simp only [List.take_succ_cons, List.take_zero, List.drop_succ_cons, List.drop_zero, List.cons_append, List.nil_append]), (by omega), (by simp only [Bool.toNat_false, Bool.toNat_true] at h2 ⊢; omega), (hL.next hR2 hb2), (fun h => ⟨(k0 h).1, (k0 h).2.1.but hb2 (by have := (k0 h).2.2; have := hL.hr; omega), (k0 h).2.2⟩), (k1), (fun _ => k2 (by trivial)), (k3), (k4), (fun _ => rfl), (fun _ => ⟨_, rfl⟩), (k7), (k8), (k9), (k10), (k11)⟩
        · refine StepOf.plain rfl ?_
          go_light
          intro listed a w1 hI h0 ha K hK
          obtain ⟨l0, l1, l2, l3, l4, l5, l6, l7, l8, l9, l10, l11, l12, v0, v1, v2, v3, v4, v5, v6, v7, v8, v9, v10, v11, g, q, rfl, ha', h1, h2, hL, k0, k1, k2, k3, k4, k5, k6, k7, k8, k9, k10, k11⟩ := hI
          simp only [List.take_succ_cons, List.take_zero, List.drop_succ_cons, List.drop_zero, List.cons_append, List.nil_append] at ha'
          subst ha'
          have e0 : l7 = false := h0
          clear ha h0
          subst e0 
          go_simp
          refine hK.out _ _ ?_
          exact ⟨l0, l1, l2, l3, l4, l5, l6, true, l8, l9, l10, l11, l12, v0, v1, v2, v3, v4, v5, v6, _, v8, v9, v10, v11, g, q, rfl, (by simp only [List.take_succ_cons, List.take_zero, List.drop_succ_cons, List.drop_zero, List.cons_append, List.nil_append]), (h1), (h2), (hL), (k0), (k1), (k2), (k3), (k4), (k5), (k6), (fun _ => rfl), (k8), (k9), (k10), (k11)⟩
        · refine StepOf.plain rfl ?_
          go_light
          intro listed a w1 hI h0 ha K hK
          obtain ⟨l0, l1, l2, l3, l4, l5, l6, l7, l8, l9, l10, l11, l12, v0, v1, v2, v3, v4, v5, v6, v7, v8, v9, v10, v11, g, q, rfl, ha', h1, h2, hL, k0, k1, k2, k3, k4, k5, k6, k7, k8, k9, k10, k11⟩ := hI
          simp only [List.take_succ_cons, List.take_zero, List.drop_succ_cons, List.drop_zero, List.cons_append, List.nil_append] at ha'
          subst ha'
          have e0 : l8 = false := h0
          have g7 : l7 = true := by revert ha; cases l7 <;> simp [Region.binds]
          have g6 : l6 = true := by revert ha; cases l6 <;> simp [Region.binds]
          clear ha h0
          subst e0 g7 g6
          obtain rfl := k7 rfl
          go_simp
          have hbd : q ≤ p1 + 3 := by
            have t2 := toNat_1 l2; have t6 := toNat_1 true; have t8 := toNat_1 false; have t10 := toNat_1 l10; simp only [Bool.toNat_false, Bool.toNat_true] at h2 t2 t6 t8 t10; omega
          refine (pick_s rb q 4 _ hL.rd (by omega) (by unfold I64; omega)).mono ?_
          rintro e w2 ⟨x, q', rfl, hx, hqa, hqb, hR2, hb2⟩
          have hx0 := hx.1; have hx1 := hx.2.1 (by omega); clear hx
          obtain ⟨x, rfl⟩ := Int.eq_ofNat_of_zero_le hx0
          go_wp2_with fail
          refine hK.out _ _ ?_
          exact ⟨l0, l1, l2, l3, l4, l5, true, true, true, l9, l10, l11, l12, v0, v1, v2, v3, v4, v5, v6, _, (.int .i64 (x : Int)), v9, v10, v11, g, q', rfl, (by simp only [List.take_succ_cons, List.take_zero, List.drop_succ_cons, List.drop_zero, List.cons_append, List.nil_append]), (by omega), (by simp only [Bool.toNat_false, Bool.toNat_true] at h2 ⊢; omega), (hL.next hR2 hb2), (fun h => ⟨(k0 h).1, (k0 h).2.1.but hb2 (by have := (k0 h).2.2; have := hL.hr; omega), (k0 h).2.2⟩), (k1), (k2), (k3), (k4), (k5), (fun _ => k6 (by trivial)), (fun _ => rfl), (fun _ => ⟨_, rfl⟩), (k9), (k10), (k11)⟩
        · refine StepOf.plain rfl ?_
          go_light
          intro listed a w1 hI h0 ha K hK
          obtain ⟨l0, l1, l2, l3, l4, l5, l6, l7, l8, l9, l10, l11, l12, v0, v1, v2, v3, v4, v5, v6, v7, v8, v9, v10, v11, g, q, rfl, ha', h1, h2, hL, k0, k1, k2, k3, k4, k5, k6, k7, k8, k9, k10, k11⟩ := hI
          simp only [List.take_succ_cons, List.take_zero, List.drop_succ_cons, List.drop_zero, List.cons_append, List.nil_append] at ha'
          subst ha'
          have e0 : l9 = false := h0
          clear ha h0
          subst e0 
          go_simp
          refine hK.out _ _ ?_
          exact ⟨l0, l1, l2, l3, l4, l5, l6, l7, l8, true, l10, l11, l12, v0, v1, v2, v3, v4, v5, v6, v7, v8, _, v10, v11, g, q, rfl, (by simp only [List.take_succ_cons, List.take_zero, List.drop_succ_cons, List.drop_zero, List.cons_append, List.nil_append]), (h1), (h2), (hL), (k0), (k1), (k2), (k3), (k4), (k5), (k6), (k7), (k8), (fun _ => rfl), (k10), (k11)⟩
        · refine StepOf.plain rfl ?_
          go_light
          intro listed a w1 hI h0 ha K hK
          obtain ⟨l0, l1, l2, l3, l4, l5, l6, l7, l8, l9, l10, l11, l12, v0, v1, v2, v3, v4, v5, v6, v7, v8, v9, v10, v11, g, q, rfl, ha', h1, h2, hL, k0, k1, k2, k3, k4, k5, k6, k7, k8, k9, k10, k11⟩ := hI
          simp only [List.take_succ_cons, List.take_zero, List.drop_succ_cons, List.drop_zero, List.cons_append, List.nil_append] at ha'
          subst ha'
          have e0 : l10 = false := h0
          have g9 : l9 = true := by revert ha; cases l9 <;> simp [Region.binds]
          have g8 : l8 = true := by revert ha; cases l8 <;> simp [Region.binds]
          clear ha h0
          subst e0 g9 g8
          obtain rfl := k9 rfl
          go_simp
          have hbd : q ≤ p1 + 3 := by
            have t2 := toNat_1 l2; have t6 := toNat_1 l6; have t8 := toNat_1 true; have t10 := toNat_1 false; simp only [Bool.toNat_false, Bool.toNat_true] at h2 t2 t6 t8 t10; omega
          refine (pick_s rb q 4 _ hL.rd (by omega) (by unfold I64; omega)).mono ?_
          rintro e w2 ⟨x, q', rfl, hx, hqa, hqb, hR2, hb2⟩
          have hx0 := hx.1; have hx1 := hx.2.1 (by omega); clear hx
          obtain ⟨x, rfl⟩ := Int.eq_ofNat_of_zero_le hx0
          go_wp2_with fail
          refine hK.out _ _ ?_
          exact ⟨l0, l1, l2, l3, l4, l5, l6, l7, true, true, true, l11, l12, v0, v1, v2, v3, v4, v5, v6, v7, v8, _, (.int .i64 (x : Int)), v11, g, q', rfl, (by simp only [List.take_succ_cons, List.take_zero, List.drop_succ_cons, List.drop_zero, List.cons_append, List.nil_append]), (by omega), (by simp only [Bool.toNat_false, Bool.toNat_true] at h2 ⊢; omega), (hL.next hR2 hb2), (fun h => ⟨(k0 h).1, (k0 h).2.1.but hb2 (by have := (k0 h).2.2; have := hL.hr; omega), (k0 h).2.2⟩), (k1), (k2), (k3), (k4), (k5), (k6), (k7), (fun _ => k8 (by trivial)), (fun _ => rfl), (fun _ => ⟨_, rfl⟩), (k11)⟩
        · refine StepOf.plain rfl ?_
          go_light
          intro listed a w1 hI h0 ha K hK
          obtain ⟨l0, l1, l2, l3, l4, l5, l6, l7, l8, l9, l10, l11, l12, v0, v1, v2, v3, v4, v5, v6, v7, v8, v9, v10, v11, g, q, rfl, ha', h1, h2, hL, k0, k1, k2, k3, k4, k5, k6, k7, k8, k9, k10, k11⟩ := hI
          simp only [List.take_succ_cons, List.take_zero, List.drop_succ_cons, List.drop_zero, List.cons_append, List.nil_append] at ha'
          subst ha'
          have e0 : l11 = false := h0
          have g4 : l4 = true := by revert ha; cases l4 <;> simp [Region.binds]
          have g6 : l6 = true := by revert ha; cases l6 <;> simp [Region.binds]
          have g8 : l8 = true := by revert ha; cases l8 <;> simp [Region.binds]
          have g10 : l10 = true := by revert ha; cases l10 <;> simp [Region.binds]
          clear ha h0
          subst e0 g4 g6 g8 g10
          obtain ⟨y4, rfl⟩ := k4 rfl
          obtain ⟨y6, rfl⟩ := k6 rfl
          obtain ⟨y8, rfl⟩ := k8 rfl
          obtain ⟨y10, rfl⟩ := k10 rfl
          go_simp
          refine hK.out _ _ ?_
          exact ⟨l0, l1, l2, l3, true, l5, true, l7, true, l9, true, true, l12, v0, v1, v2, v3, (.int .i64 y4), v5, (.int .i64 y6), v7, (.int .i64 y8), v9, (.int .i64 y10), (.agg #[.int .i64 y4, .int .i64 y6, .int .i64 y8, .int .i64 y10, .int .i64 0, .int .i64 0, .int .i64 0, .int .i64 0]), g, q, rfl, (by simp only [List.take_succ_cons, List.take_zero, List.drop_succ_cons, List.drop_zero, List.cons_append, List.nil_append]), (h1), (h2), (hL), (k0), (k1), (k2), (k3), (fun _ => ⟨_, rfl⟩), (k5), (fun _ => ⟨_, rfl⟩), (k7), (fun _ => ⟨_, rfl⟩), (k9), (fun _ => ⟨_, rfl⟩), (fun _ => ⟨_, _, _, _, _, _, _, _, rfl⟩)⟩
        · refine StepOf.plain rfl ?_
          go_light
          intro listed a w1 hI h0 ha K hK
          obtain ⟨l0, l1, l2, l3, l4, l5, l6, l7, l8, l9, l10, l11, l12, v0, v1, v2, v3, v4, v5, v6, v7, v8, v9, v10, v11, g, q, rfl, ha', h1, h2, hL, k0, k1, k2, k3, k4, k5, k6, k7, k8, k9, k10, k11⟩ := hI
          simp only [List.take_succ_cons, List.take_zero, List.drop_succ_cons, List.drop_zero, List.cons_append, List.nil_append] at ha'
          subst ha'
          have e0 : l12 = false := h0
          have g11 : l11 = true := by revert ha; cases l11 <;> simp [Region.binds]
          clear ha h0
          subst e0 g11
          obtain ⟨a0, a1, a2, a3, a4, a5, a6, a7, rfl⟩ := k11 rfl
          obtain ⟨i0, i1, i2, i3, i4, i5, i6, i7, hv⟩ := hL.var; obtain ⟨c0, c1, c2, c3, c4, c5, c6, c7⟩ := hv.eight; obtain ⟨f0, f1, f2, f3, f4, f5, f6, f7⟩ := hv.free8; clear hv
          go_simp
          refine hK.out _ _ ?_
          exact ⟨l0, l1, l2, l3, l4, l5, l6, l7, l8, l9, l10, true, true, v0, v1, v2, v3, v4, v5, v6, v7, v8, v9, v10, (.agg #[.int .i64 a0, .int .i64 a1, .int .i64 a2, .int .i64 a3, .int .i64 a4, .int .i64 a5, .int .i64 a6, .int .i64 a7]), g, q, rfl, (by simp only [List.take_succ_cons, List.take_zero, List.drop_succ_cons, List.drop_zero, List.cons_append, List.nil_append]), (h1), (h2), (hL.put _ _ _ _ _ _ _ _), (fun h => ⟨(k0 h).1, (k0 h).2.1.put8 (by have := (k0 h).2.2; omega) _ _ _ _ _ _ _ _, (k0 h).2.2⟩), (k1), (k2), (k3), (k4), (k5), (k6), (k7), (k8), (k9), (k10), (fun _ => ⟨_, _, _, _, _, _, _, _, rfl⟩)⟩
      case hend =>
        intro listed a w1 hall hI
        obtain ⟨l0, l1, l2, l3, l4, l5, l6, l7, l8, l9, l10, l11, l12, v0, v1, v2, v3, v4, v5, v6, v7, v8, v9, v10, v11, g, q, rfl, ha', h1, h2, hL, k0, k1, k2, k3, k4, k5, k6, k7, k8, k9, k10, k11⟩ := hI
        simp only [List.take_succ_cons, List.take_zero, List.drop_succ_cons, List.drop_zero, List.cons_append, List.nil_append] at ha'
        subst ha'
        have hbd : q ≤ p1 + 4 := by
          have t2 := toNat_1 l2; have t6 := toNat_1 l6; have t8 := toNat_1 l8; have t10 := toNat_1 l10; omega
        clear h2 hall k0 k1 k2 k3 k4 k5 k6 k7 k8 k9 k10 k11
        go_wp2_with fail
        go_meet
        exact ⟨_, rfl, q, by omega, by omega, hL⟩
    · clear hx
      go_wp2_with fail
      refine (pick_s rb p1 4 _ HL.out.rd (by omega) (by unfold I64; omega)).mono ?_
      rintro e w2 ⟨x2, p2, rfl, hx2, hq2a, hq2b, hR2, hb2⟩
      have HM := Lib.hid (HL.out.next hR2 hb2); clear HL hR2 hb2; have HL := HM; clear HM
      have hx2a := hx2.1; have hx2b := hx2.2.1 (by omega); clear hx2
      go_wp2_with fail
      refine (pick_s rb p2 4 _ HL.out.rd (by omega) (by unfold I64; omega)).mono ?_
      rintro e w3 ⟨x3, p3, rfl, hx3, hq3a, hq3b, hR3, hb3⟩
      have HM := Lib.hid (HL.out.next hR3 hb3); clear HL hR3 hb3; have HL := HM; clear HM
      have hx3a := hx3.1; have hx3b := hx3.2.1 (by omega); clear hx3
      obtain ⟨i0, i1, i2, i3, i4, i5, i6, i7, hv⟩ := HL.out.var; obtain ⟨c0, c1, c2, c3, c4, c5, c6, c7⟩ := hv.eight; obtain ⟨f0, f1, f2, f3, f4, f5, f6, f7⟩ := hv.free8; clear hv
      go_wp2_with fail
      go_meet
      exact ⟨_, rfl, p3, by omega, by omega, HL.out.put _ _ _ _ _ _ _ _⟩
    · clear hx
      go_wp2_with fail
      refine (pick_s rb p1 4 _ HL.out.rd (by omega) (by unfold I64; omega)).mono ?_
      rintro e w2 ⟨x2, p2, rfl, hx2, hq2a, hq2b, hR2, hb2⟩
      have HM := Lib.hid (HL.out.next hR2 hb2); clear HL hR2 hb2; have HL := HM; clear HM
      have hx2a := hx2.1; have hx2b := hx2.2.1 (by omega); clear hx2
      go_wp2_with fail
      refine (pick_s rb p2 4 _ HL.out.rd (by omega) (by unfold I64; omega)).mono ?_
      rintro e w3 ⟨x3, p3, rfl, hx3, hq3a, hq3b, hR3, hb3⟩
      have HM := Lib.hid (HL.out.next hR3 hb3); clear HL hR3 hb3; have HL := HM; clear HM
      have hx3a := hx3.1; have hx3b := hx3.2.1 (by omega); clear hx3
      obtain ⟨i0, i1, i2, i3, i4, i5, i6, i7, hv⟩ := HL.out.var; obtain ⟨c0, c1, c2, c3, c4, c5, c6, c7⟩ := hv.eight; obtain ⟨f0, f1, f2, f3, f4, f5, f6, f7⟩ := hv.free8; clear hv
      go_wp2_with fail
      go_meet
      exact ⟨_, rfl, p3, by omega, by omega, HL.out.put _ _ _ _ _ _ _ _⟩
    · clear hx
      go_wp2_with fail
      refine (pick_s rb p1 4 _ HL.out.rd (by omega) (by unfold I64; omega)).mono ?_
      rintro e w2 ⟨x2, p2, rfl, hx2, hq2a, hq2b, hR2, hb2⟩
      have HM := Lib.hid (HL.out.next hR2 hb2); clear HL hR2 hb2; have HL := HM; clear HM
      have hx2a := hx2.1; have hx2b := hx2.2.1 (by omega); clear hx2
      go_wp2_with fail
      refine (pick_s rb p2 4 _ HL.out.rd (by omega) (by unfold I64; omega)).mono ?_
      rintro e w3 ⟨x3, p3, rfl, hx3, hq3a, hq3b, hR3, hb3⟩
      have HM := Lib.hid (HL.out.next hR3 hb3); clear HL hR3 hb3; have HL := HM; clear HM
      have hx3a := hx3.1; have hx3b := hx3.2.1 (by omega); clear hx3
      go_wp2_with fail
      refine (pick_s rb p3 4 _ HL.out.rd (by omega) (by unfold I64; omega)).mono ?_
      rintro e w4 ⟨x4, p4, rfl, hx4, hq4a, hq4b, hR4, hb4⟩
      have HM := Lib.hid (HL.out.next hR4 hb4); clear HL hR4 hb4; have HL := HM; clear HM
      have hx4a := hx4.1; have hx4b := hx4.2.1 (by omega); clear hx4
      go_wp2_with fail
      refine (pick_s rb p4 10 _ HL.out.rd (by omega) (by unfold I64; omega)).mono ?_
      rintro e w5 ⟨x5, p5, rfl, hx5, hq5a, hq5b, hR5, hb5⟩
      have HM := Lib.hid (HL.out.next hR5 hb5); clear HL hR5 hb5; have HL := HM; clear HM
      have hx5a := hx5.1; have hx5b := hx5.2.1 (by omega); clear hx5
      obtain ⟨i0, i1, i2, i3, i4, i5, i6, i7, hv⟩ := HL.out.var; obtain ⟨c0, c1, c2, c3, c4, c5, c6, c7⟩ := hv.eight; obtain ⟨f0, f1, f2, f3, f4, f5, f6, f7⟩ := hv.free8; clear hv
      go_wp2_with fail
      go_meet
      exact ⟨_, rfl, p5, by omega, by omega, HL.out.put _ _ _ _ _ _ _ _⟩
    · clear hx
      go_wp2_with fail
      refine (pick_s rb p1 4 _ HL.out.rd (by omega) (by unfold I64; omega)).mono ?_
      rintro e w2 ⟨x2, p2, rfl, hx2, hq2a, hq2b, hR2, hb2⟩
      have HM := Lib.hid (HL.out.next hR2 hb2); clear HL hR2 hb2; have HL := HM; clear HM
      have hx2a := hx2.1; have hx2b := hx2.2.1 (by omega); clear hx2
      go_wp2_with fail
      refine (pick_s rb p2 4 _ HL.out.rd (by omega) (by unfold I64; omega)).mono ?_
      rintro e w3 ⟨x3, p3, rfl, hx3, hq3a, hq3b, hR3, hb3⟩
      have HM := Lib.hid (HL.out.next hR3 hb3); clear HL hR3 hb3; have HL := HM; clear HM
      have hx3a := hx3.1; have hx3b := hx3.2.1 (by omega); clear hx3
      go_wp2_with fail
      refine (pick_s rb p3 4 _ HL.out.rd (by omega) (by unfold I64; omega)).mono ?_
      rintro e w4 ⟨x4, p4, rfl, hx4, hq4a, hq4b, hR4, hb4⟩
      have HM := Lib.hid (HL.out.next hR4 hb4); clear HL hR4 hb4; have HL := HM; clear HM
      have hx4a := hx4.1; have hx4b := hx4.2.1 (by omega); clear hx4
      go_wp2_with fail
      refine (pick_s rb p4 10 _ HL.out.rd (by omega) (by unfold I64; omega)).mono ?_
      rintro e w5 ⟨x5, p5, rfl, hx5, hq5a, hq5b, hR5, hb5⟩
      have HM := Lib.hid (HL.out.next hR5 hb5); clear HL hR5 hb5; have HL := HM; clear HM
      have hx5a := hx5.1; have hx5b := hx5.2.1 (by omega); clear hx5
      obtain ⟨i0, i1, i2, i3, i4, i5, i6, i7, hv⟩ := HL.out.var; obtain ⟨c0, c1, c2, c3, c4, c5, c6, c7⟩ := hv.eight; obtain ⟨f0, f1, f2, f3, f4, f5, f6, f7⟩ := hv.free8; clear hv
      go_wp2_with fail
      go_meet
      exact ⟨_, rfl, p5, by omega, by omega, HL.out.put _ _ _ _ _ _ _ _⟩
    · clear hx
      go_wp2_with fail
      refine (pick_s rb p1 4 _ HL.out.rd (by omega) (by unfold I64; omega)).mono ?_
      rintro e w2 ⟨x2, p2, rfl, hx2, hq2a, hq2b, hR2, hb2⟩
      have HM := Lib.hid (HL.out.next hR2 hb2); clear HL hR2 hb2; have HL := HM; clear HM
      have hx2a := hx2.1; have hx2b := hx2.2.1 (by omega); clear hx2
      go_wp2_with fail
      refine (pick_s rb p2 4 _ HL.out.rd (by omega) (by unfold I64; omega)).mono ?_
      rintro e w3 ⟨x3, p3, rfl, hx3, hq3a, hq3b, hR3, hb3⟩
      have HM := Lib.hid (HL.out.next hR3 hb3); clear HL hR3 hb3; have HL := HM; clear HM
      have hx3a := hx3.1; have hx3b := hx3.2.1 (by omega); clear hx3
      go_wp2_with fail
      refine (pick_s rb p3 4 _ HL.out.rd (by omega) (by unfold I64; omega)).mono ?_
      rintro e w4 ⟨x4, p4, rfl, hx4, hq4a, hq4b, hR4, hb4⟩
      have HM := Lib.hid (HL.out.next hR4 hb4); clear HL hR4 hb4; have HL := HM; clear HM
      have hx4a := hx4.1; have hx4b := hx4.2.1 (by omega); clear hx4
      obtain ⟨i0, i1, i2, i3, i4, i5, i6, i7, hv⟩ := HL.out.var; obtain ⟨c0, c1, c2, c3, c4, c5, c6, c7⟩ := hv.eight; obtain ⟨f0, f1, f2, f3, f4, f5, f6, f7⟩ := hv.free8; clear hv
      go_wp2_with fail
      go_meet
      exact ⟨_, rfl, p4, by omega, by omega, HL.out.put _ _ _ _ _ _ _ _⟩
    · clear hx
      go_wp2_with fail
      refine (pick_s rb p1 4 _ HL.out.rd (by omega) (by unfold I64; omega)).mono ?_
      rintro e w2 ⟨x2, p2, rfl, hx2, hq2a, hq2b, hR2, hb2⟩
      have HM := Lib.hid (HL.out.next hR2 hb2); clear HL hR2 hb2; have HL := HM; clear HM
      have hx2a := hx2.1; have hx2b := hx2.2.1 (by omega); clear hx2
      go_wp2_with fail
      refine (pick_s rb p2 4 _ HL.out.rd (by omega) (by unfold I64; omega)).mono ?_
      rintro e w3 ⟨x3, p3, rfl, hx3, hq3a, hq3b, hR3, hb3⟩
      have HM := Lib.hid (HL.out.next hR3 hb3); clear HL hR3 hb3; have HL := HM; clear HM
      have hx3a := hx3.1; have hx3b := hx3.2.1 (by omega); clear hx3
      go_wp2_with fail
      refine (pick_s rb p3 4 _ HL.out.rd (by omega) (by unfold I64; omega)).mono ?_
      rintro e w4 ⟨x4, p4, rfl, hx4, hq4a, hq4b, hR4, hb4⟩
      have HM := Lib.hid (HL.out.next hR4 hb4); clear HL hR4 hb4; have HL := HM; clear HM
      have hx4a := hx4.1; have hx4b := hx4.2.1 (by omega); clear hx4
      obtain ⟨i0, i1, i2, i3, i4, i5, i6, i7, hv⟩ := HL.out.var; obtain ⟨c0, c1, c2, c3, c4, c5, c6, c7⟩ := hv.eight; obtain ⟨f0, f1, f2, f3, f4, f5, f6, f7⟩ := hv.free8; clear hv
      go_wp2_with fail
      go_meet
      exact ⟨_, rfl, p4, by omega, by omega, HL.out.put _ _ _ _ _ _ _ _⟩
  case rest =>
    obtain ⟨W2, rfl, p2, hq3, hq4, hL⟩ := hcut
    have HL := Lib.hid hL
    clear hL hx
    go_wp2_with fail
    refine (odd_s rb p2 16 _ HL.out.rd (by omega) (by unfold I64; omega)).mono ?_
    rintro e w3 ⟨x, p3, rfl, hq5, hq6, hR3, hb3⟩
    have HM := Lib.hid (HL.out.next hR3 hb3); clear HL hR3 hb3; have HL := HM; clear HM
    cases x
    · obtain ⟨i0, i1, i2, i3, i4, i5, i6, i7, hv⟩ := HL.out.var; obtain ⟨c0, c1, c2, c3, c4, c5, c6, c7⟩ := hv.eight; obtain ⟨f0, f1, f2, f3, f4, f5, f6, f7⟩ := hv.free8; clear hv
      obtain ⟨r0, r1, r2, r3, r4, r5, r6, r7⟩ := HL.out.res.eight; obtain ⟨s0, s1, s2, s3, s4, s5, s6, s7⟩ := HL.out.res.free8
      go_wp2_with fail
      refine bodyPost_ret (by simp [results, Try.results52, go_sem, *]; try rfl) rfl ?_
      unfold DrawIns
      exact ⟨i0, i1, i2, i3, i4, i5, i6, i7, p3, rfl, by omega, by omega, HL.out.rd.put8 HL.out.hr _ _ _ _ _ _ _ _, HL.out.but.put8 (Nat.le_refl _) _ _ _ _ _ _ _ _⟩
    · go_wp2_with fail
      refine (pick_s rb p3 10 _ HL.out.rd (by omega) (by unfold I64; omega)).mono ?_
      rintro e w4 ⟨y, p4, rfl, hy, hq7, hq8, hR4, hb4⟩
      have HM := Lib.hid (HL.out.next hR4 hb4); clear HL hR4 hb4; have HL := HM; clear HM
      clear hy
      obtain ⟨r0, r1, r2, r3, r4, r5, r6, r7⟩ := HL.out.res.eight; obtain ⟨s0, s1, s2, s3, s4, s5, s6, s7⟩ := HL.out.res.free8
      go_wp2_with fail
      refine bodyPost_ret (by simp [results, Try.results52, go_sem, *]; try rfl) rfl ?_
      unfold DrawIns
      exact ⟨_, _, _, _, _, _, _, _, p4, rfl, by omega, by omega, HL.out.rd.put8 HL.out.hr _ _ _ _ _ _ _ _, HL.out.but.put8 (Nat.le_refl _) _ _ _ _ _ _ _ _⟩
end Go.Proofs.Ytdpooiiacdfpkaa
