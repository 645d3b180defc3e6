/-
  What ItvWide computes, the program's and the reference's: the steps' slice, the two loops. No conditions.
-/
import Derived.Test.YtdpooiiacdfpkaaItv
namespace Go.Proofs.Ytdpooiiacdfpkaa
set_option linter.unusedSimpArgs false
set_option linter.unusedVariables false
open Go.ChangeShapes Go.WideShapes Go.ChangeAt Go.RowKit

/-- The eleven steps lie in block g. -/
def StepsAt (w : World) (g : Nat) : Prop := ∀ k, k < 11 → w.cell? ⟨g, k, none⟩ = some (.int .i64 (stepsL.getD k 0))
set_option maxHeartbeats 1000000 in
theorem steps_i (w : World) : Calls Try.prog 63 #[] w fun e w' => e = .returned (.slice (some ⟨w.heap.size, 0, none⟩) 11 11) ∧ StepsAt w' w.heap.size ∧ Below w.heap.size w w' := by
  go_enter Try.func63, Try.ntmps63
  go_wp2
  go_ret
  refine ⟨rfl, ?_, by go_grown⟩
  intro k hk
  match k, hk with
  | 0, _ | 1, _ | 2, _ | 3, _ | 4, _ | 5, _ | 6, _ | 7, _ | 8, _ | 9, _ | 10, _ => simp [stepsL]
set_option maxHeartbeats 1000000 in
theorem steps_s (w : World) : Calls Try.prog 62 #[] w fun e w' => e = .returned (.slice (some ⟨w.heap.size, 0, none⟩) 11 11) ∧ StepsAt w' w.heap.size ∧ Below w.heap.size w w' := by
  go_enter Try.func62, Try.ntmps62
  go_wp2
  go_ret
  refine ⟨rfl, ?_, by go_grown⟩
  intro k hk
  match k, hk with
  | 0, _ | 1, _ | 2, _ | 3, _ | 4, _ | 5, _ | 6, _ | 7, _ | 8, _ | 9, _ | 10, _ => simp [stepsL]
/-- What holds while the bounds grow: x holds them as they are now, g the steps; the boxes of both arguments and of the result lie as they did. -/
structure WR (w : World) (x g : Nat) (al ah bl bh lo hi : Int) (wr : World) : Prop where
  lo : wr.cell? ⟨x, 0, none⟩ = some (.int .i64 lo)
  hi : wr.cell? ⟨x, 1, none⟩ = some (.int .i64 hi)
  fl : wr.frozen? ⟨x, 0, none⟩ = false
  fh : wr.frozen? ⟨x, 1, none⟩ = false
  al : wr.cell? ⟨w.heap.size, 0, none⟩ = some (.int .i64 al)
  ah : wr.cell? ⟨w.heap.size, 1, none⟩ = some (.int .i64 ah)
  bl : wr.cell? ⟨w.heap.size + 1, 0, none⟩ = some (.int .i64 bl)
  bh : wr.cell? ⟨w.heap.size + 1, 1, none⟩ = some (.int .i64 bh)
  r0 : wr.cell? ⟨w.heap.size + 1 + 1, 0, none⟩ = some (.int .i64 0)
  r1 : wr.cell? ⟨w.heap.size + 1 + 1, 1, none⟩ = some (.int .i64 0)
  f0 : wr.frozen? ⟨w.heap.size + 1 + 1, 0, none⟩ = false
  f1 : wr.frozen? ⟨w.heap.size + 1 + 1, 1, none⟩ = false
  st : StepsAt wr g
  be : Below w.heap.size w wr
  xg : x ≠ g
  xw : w.heap.size + 1 + 1 < x
theorem WR.drewN {w : World} {x g : Nat} {al ah bl bh lo hi : Int} {wr : World} (h : WR w x g al ah bl bh lo hi wr) (n : Nat) : WR w x g al ah bl bh lo hi (wr.drewN n) :=
  ⟨h.lo, h.hi, h.fl, h.fh, h.al, h.ah, h.bl, h.bh, h.r0, h.r1, h.f0, h.f1, h.st, h.be.trans (Joins.below_draws _ _ _), h.xg, h.xw⟩
theorem WR.set {w : World} {x g : Nat} {al ah bl bh lo hi : Int} {wr : World} (h : WR w x g al ah bl bh lo hi wr) (o : Nat) (v : Int) (lo' hi' : Int)
    (h0 : (wr.setCell ⟨x, o, none⟩ (.int .i64 v)).cell? ⟨x, 0, none⟩ = some (.int .i64 lo')) (h1 : (wr.setCell ⟨x, o, none⟩ (.int .i64 v)).cell? ⟨x, 1, none⟩ = some (.int .i64 hi')) : WR w x g al ah bl bh lo' hi' (wr.setCell ⟨x, o, none⟩ (.int .i64 v)) := by
  have k : ∀ b i, b ≠ x → (wr.setCell ⟨x, o, none⟩ (.int .i64 v)).cell? ⟨b, i, none⟩ = wr.cell? ⟨b, i, none⟩ := fun b i hb => World.cell?_of_block (w := wr) (Below.heap_setCell wr _ _ b hb)
  have f : ∀ b i, (wr.setCell ⟨x, o, none⟩ (.int .i64 v)).frozen? ⟨b, i, none⟩ = wr.frozen? ⟨b, i, none⟩ := fun b i => by simp
  have hx := h.xw
  exact ⟨h0, h1, (f _ _).trans h.fl, (f _ _).trans h.fh, (k _ _ (by omega)).trans h.al, (k _ _ (by omega)).trans h.ah, (k _ _ (by omega)).trans h.bl, (k _ _ (by omega)).trans h.bh,
    (k _ _ (by omega)).trans h.r0, (k _ _ (by omega)).trans h.r1, (f _ _).trans h.f0, (f _ _).trans h.f1, fun j hj => (k _ _ (Ne.symm h.xg)).trans (h.st j hj), h.be.setCell (by simp only; omega) _, h.xg, hx⟩
theorem WR.setLo {w : World} {x g : Nat} {al ah bl bh lo hi : Int} {wr : World} (h : WR w x g al ah bl bh lo hi wr) (v : Int) : WR w x g al ah bl bh v hi (wr.setCell ⟨x, 0, none⟩ (.int .i64 v)) :=
  h.set 0 v v hi (World.cell?_setCell_same wr _ _ h.lo) ((World.cell?_setCell_other wr _ _ _ (by simp)).trans h.hi)
theorem WR.setHi {w : World} {x g : Nat} {al ah bl bh lo hi : Int} {wr : World} (h : WR w x g al ah bl bh lo hi wr) (v : Int) : WR w x g al ah bl bh lo v (wr.setCell ⟨x, 1, none⟩ (.int .i64 v)) :=
  h.set 1 v lo v ((World.cell?_setCell_other wr _ _ _ (by simp)).trans h.lo) (World.cell?_setCell_same wr _ _ h.hi)

set_option maxHeartbeats 2000000 in
theorem itvWide_no_s (al ah bl bh : Int) (w : World) (h : okI (al, ah) = false ∨ okI (al, ah) = true ∧ okI (bl, bh) = false) : Calls Try.prog 48 #[.agg #[.int .i64 al, .int .i64 ah], .agg #[.int .i64 bl, .int .i64 bh]] w fun e w' => e = .returned (.agg #[.int .i64 (wideI (al, ah) (bl, bh)).1, .int .i64 (wideI (al, ah) (bl, bh)).2]) ∧ Below w.heap.size w w' := by
  have hv : wideI (al, ah) (bl, bh) = (0, 0) := by unfold wideI; rw [if_neg (by rintro ⟨x, y⟩; rw [x, y] at h; simp at h)]
  rw [hv]
  clear hv
  rcases h with ha | ⟨ha, hb'⟩
  all_goals
    go_enter Try.func48, Try.ntmps48
    go_wp2_with (go_at_call 35; refine (itvOk_s _ _ _).mono ?_; rintro e w' ⟨rfl, hb⟩; have hs0 := hb.size; have hB : Below w.heap.size w w' := below_on (by ((try go_split_ands); go_grown)) hb; have hz := hB.size; have hc := bcell hb; (try simp only [World.size_alloc, World.size_setCell, World.size_drew] at hs0); (first | have m0 := up_7 m0 (show _ ≤ w'.heap.size by omega) | have m0 := up_6 m0 (show _ ≤ w'.heap.size by omega) | have m0 := up_5 m0 (show _ ≤ w'.heap.size by omega) | have m0 := up_4 m0 (show _ ≤ w'.heap.size by omega) | have m0 := up_3 m0 (show _ ≤ w'.heap.size by omega) | have m0 := up_2 m0 (show _ ≤ w'.heap.size by omega) | have m0 := up_1 m0 (show _ ≤ w'.heap.size by omega) | skip); (first | have m1 := up_7 m1 (show _ ≤ w'.heap.size by omega) | have m1 := up_6 m1 (show _ ≤ w'.heap.size by omega) | have m1 := up_5 m1 (show _ ≤ w'.heap.size by omega) | have m1 := up_4 m1 (show _ ≤ w'.heap.size by omega) | have m1 := up_3 m1 (show _ ≤ w'.heap.size by omega) | have m1 := up_2 m1 (show _ ≤ w'.heap.size by omega) | have m1 := up_1 m1 (show _ ≤ w'.heap.size by omega) | skip); (first | have m2 := up_7 m2 (show _ ≤ w'.heap.size by omega) | have m2 := up_6 m2 (show _ ≤ w'.heap.size by omega) | have m2 := up_5 m2 (show _ ≤ w'.heap.size by omega) | have m2 := up_4 m2 (show _ ≤ w'.heap.size by omega) | have m2 := up_3 m2 (show _ ≤ w'.heap.size by omega) | have m2 := up_2 m2 (show _ ≤ w'.heap.size by omega) | have m2 := up_1 m2 (show _ ≤ w'.heap.size by omega) | skip); (first | have m3 := up_7 m3 (show _ ≤ w'.heap.size by omega) | have m3 := up_6 m3 (show _ ≤ w'.heap.size by omega) | have m3 := up_5 m3 (show _ ≤ w'.heap.size by omega) | have m3 := up_4 m3 (show _ ≤ w'.heap.size by omega) | have m3 := up_3 m3 (show _ ≤ w'.heap.size by omega) | have m3 := up_2 m3 (show _ ≤ w'.heap.size by omega) | have m3 := up_1 m3 (show _ ≤ w'.heap.size by omega) | skip); (first | have m4 := up_7 m4 (show _ ≤ w'.heap.size by omega) | have m4 := up_6 m4 (show _ ≤ w'.heap.size by omega) | have m4 := up_5 m4 (show _ ≤ w'.heap.size by omega) | have m4 := up_4 m4 (show _ ≤ w'.heap.size by omega) | have m4 := up_3 m4 (show _ ≤ w'.heap.size by omega) | have m4 := up_2 m4 (show _ ≤ w'.heap.size by omega) | have m4 := up_1 m4 (show _ ≤ w'.heap.size by omega) | skip); (first | have m5 := up_7 m5 (show _ ≤ w'.heap.size by omega) | have m5 := up_6 m5 (show _ ≤ w'.heap.size by omega) | have m5 := up_5 m5 (show _ ≤ w'.heap.size by omega) | have m5 := up_4 m5 (show _ ≤ w'.heap.size by omega) | have m5 := up_3 m5 (show _ ≤ w'.heap.size by omega) | have m5 := up_2 m5 (show _ ≤ w'.heap.size by omega) | have m5 := up_1 m5 (show _ ≤ w'.heap.size by omega) | skip); (first | (have mm := lt_7 hs0; (try have m5 := m4); (try have m4 := m3); (try have m3 := m2); (try have m2 := m1); (try have m1 := m0); have m0 := mm) | (have mm := lt_6 hs0; (try have m5 := m4); (try have m4 := m3); (try have m3 := m2); (try have m2 := m1); (try have m1 := m0); have m0 := mm) | (have mm := lt_5 hs0; (try have m5 := m4); (try have m4 := m3); (try have m3 := m2); (try have m2 := m1); (try have m1 := m0); have m0 := mm) | (have mm := lt_4 hs0; (try have m5 := m4); (try have m4 := m3); (try have m3 := m2); (try have m2 := m1); (try have m1 := m0); have m0 := mm) | (have mm := lt_3 hs0; (try have m5 := m4); (try have m4 := m3); (try have m3 := m2); (try have m2 := m1); (try have m1 := m0); have m0 := mm) | (have mm := lt_2 hs0; (try have m5 := m4); (try have m4 := m3); (try have m3 := m2); (try have m2 := m1); (try have m1 := m0); have m0 := mm) | (have mm := lt_1 hs0; (try have m5 := m4); (try have m4 := m3); (try have m3 := m2); (try have m2 := m1); (try have m1 := m0); have m0 := mm) | skip); clear hs0; clear hb)
    refine bodyPost_ret (by simp [results, Try.results48, go_sem, *]; try rfl) rfl ?_
    exact ⟨rfl, by go_grown⟩
set_option maxHeartbeats 4000000 in
theorem itvWide_yes_s (al ah bl bh lo hi : Int) (w : World) (ha : okI (al, ah) = true) (hb' : okI (bl, bh) = true) (Hlo : Hid (lo = if bl < al then stepLo al bl else al)) (Hhi : Hid (hi = if ah < bh then stepHi ah bh else ah)) : Calls Try.prog 48 #[.agg #[.int .i64 al, .int .i64 ah], .agg #[.int .i64 bl, .int .i64 bh]] w fun e w' => e = .returned (.agg #[.int .i64 lo, .int .i64 hi]) ∧ Below w.heap.size w w' := by
  go_enter Try.func48, Try.ntmps48
  go_wp2_with fail
  refine (itvOk_s _ _ _).mono ?_
  rintro e w1 ⟨rfl, hb⟩; have hs0 := hb.size; have hB : Below w.heap.size w w1 := below_on (by ((try go_split_ands); go_grown)) hb; have hz := hB.size; have hc := bcell hb; (try simp only [World.size_alloc, World.size_setCell, World.size_drew] at hs0); (first | have m0 := up_7 m0 (show _ ≤ w1.heap.size by omega) | have m0 := up_6 m0 (show _ ≤ w1.heap.size by omega) | have m0 := up_5 m0 (show _ ≤ w1.heap.size by omega) | have m0 := up_4 m0 (show _ ≤ w1.heap.size by omega) | have m0 := up_3 m0 (show _ ≤ w1.heap.size by omega) | have m0 := up_2 m0 (show _ ≤ w1.heap.size by omega) | have m0 := up_1 m0 (show _ ≤ w1.heap.size by omega) | skip); (first | have m1 := up_7 m1 (show _ ≤ w1.heap.size by omega) | have m1 := up_6 m1 (show _ ≤ w1.heap.size by omega) | have m1 := up_5 m1 (show _ ≤ w1.heap.size by omega) | have m1 := up_4 m1 (show _ ≤ w1.heap.size by omega) | have m1 := up_3 m1 (show _ ≤ w1.heap.size by omega) | have m1 := up_2 m1 (show _ ≤ w1.heap.size by omega) | have m1 := up_1 m1 (show _ ≤ w1.heap.size by omega) | skip); (first | have m2 := up_7 m2 (show _ ≤ w1.heap.size by omega) | have m2 := up_6 m2 (show _ ≤ w1.heap.size by omega) | have m2 := up_5 m2 (show _ ≤ w1.heap.size by omega) | have m2 := up_4 m2 (show _ ≤ w1.heap.size by omega) | have m2 := up_3 m2 (show _ ≤ w1.heap.size by omega) | have m2 := up_2 m2 (show _ ≤ w1.heap.size by omega) | have m2 := up_1 m2 (show _ ≤ w1.heap.size by omega) | skip); (first | have m3 := up_7 m3 (show _ ≤ w1.heap.size by omega) | have m3 := up_6 m3 (show _ ≤ w1.heap.size by omega) | have m3 := up_5 m3 (show _ ≤ w1.heap.size by omega) | have m3 := up_4 m3 (show _ ≤ w1.heap.size by omega) | have m3 := up_3 m3 (show _ ≤ w1.heap.size by omega) | have m3 := up_2 m3 (show _ ≤ w1.heap.size by omega) | have m3 := up_1 m3 (show _ ≤ w1.heap.size by omega) | skip); (first | have m4 := up_7 m4 (show _ ≤ w1.heap.size by omega) | have m4 := up_6 m4 (show _ ≤ w1.heap.size by omega) | have m4 := up_5 m4 (show _ ≤ w1.heap.size by omega) | have m4 := up_4 m4 (show _ ≤ w1.heap.size by omega) | have m4 := up_3 m4 (show _ ≤ w1.heap.size by omega) | have m4 := up_2 m4 (show _ ≤ w1.heap.size by omega) | have m4 := up_1 m4 (show _ ≤ w1.heap.size by omega) | skip); (first | have m5 := up_7 m5 (show _ ≤ w1.heap.size by omega) | have m5 := up_6 m5 (show _ ≤ w1.heap.size by omega) | have m5 := up_5 m5 (show _ ≤ w1.heap.size by omega) | have m5 := up_4 m5 (show _ ≤ w1.heap.size by omega) | have m5 := up_3 m5 (show _ ≤ w1.heap.size by omega) | have m5 := up_2 m5 (show _ ≤ w1.heap.size by omega) | have m5 := up_1 m5 (show _ ≤ w1.heap.size by omega) | skip); (first | (have mm := lt_7 hs0; (try have m5 := m4); (try have m4 := m3); (try have m3 := m2); (try have m2 := m1); (try have m1 := m0); have m0 := mm) | (have mm := lt_6 hs0; (try have m5 := m4); (try have m4 := m3); (try have m3 := m2); (try have m2 := m1); (try have m1 := m0); have m0 := mm) | (have mm := lt_5 hs0; (try have m5 := m4); (try have m4 := m3); (try have m3 := m2); (try have m2 := m1); (try have m1 := m0); have m0 := mm) | (have mm := lt_4 hs0; (try have m5 := m4); (try have m4 := m3); (try have m3 := m2); (try have m2 := m1); (try have m1 := m0); have m0 := mm) | (have mm := lt_3 hs0; (try have m5 := m4); (try have m4 := m3); (try have m3 := m2); (try have m2 := m1); (try have m1 := m0); have m0 := mm) | (have mm := lt_2 hs0; (try have m5 := m4); (try have m4 := m3); (try have m3 := m2); (try have m2 := m1); (try have m1 := m0); have m0 := mm) | (have mm := lt_1 hs0; (try have m5 := m4); (try have m4 := m3); (try have m3 := m2); (try have m2 := m1); (try have m1 := m0); have m0 := mm) | skip); clear hs0; clear hb
  go_wp2_with fail
  refine (itvOk_s _ _ _).mono ?_
  rintro e w2 ⟨rfl, hb⟩; have hs0 := hb.size; have hB : Below w.heap.size w w2 := below_on (by ((try go_split_ands); go_grown)) hb; have hz := hB.size; have hc := bcell hb; (try simp only [World.size_alloc, World.size_setCell, World.size_drew] at hs0); (first | have m0 := up_7 m0 (show _ ≤ w2.heap.size by omega) | have m0 := up_6 m0 (show _ ≤ w2.heap.size by omega) | have m0 := up_5 m0 (show _ ≤ w2.heap.size by omega) | have m0 := up_4 m0 (show _ ≤ w2.heap.size by omega) | have m0 := up_3 m0 (show _ ≤ w2.heap.size by omega) | have m0 := up_2 m0 (show _ ≤ w2.heap.size by omega) | have m0 := up_1 m0 (show _ ≤ w2.heap.size by omega) | skip); (first | have m1 := up_7 m1 (show _ ≤ w2.heap.size by omega) | have m1 := up_6 m1 (show _ ≤ w2.heap.size by omega) | have m1 := up_5 m1 (show _ ≤ w2.heap.size by omega) | have m1 := up_4 m1 (show _ ≤ w2.heap.size by omega) | have m1 := up_3 m1 (show _ ≤ w2.heap.size by omega) | have m1 := up_2 m1 (show _ ≤ w2.heap.size by omega) | have m1 := up_1 m1 (show _ ≤ w2.heap.size by omega) | skip); (first | have m2 := up_7 m2 (show _ ≤ w2.heap.size by omega) | have m2 := up_6 m2 (show _ ≤ w2.heap.size by omega) | have m2 := up_5 m2 (show _ ≤ w2.heap.size by omega) | have m2 := up_4 m2 (show _ ≤ w2.heap.size by omega) | have m2 := up_3 m2 (show _ ≤ w2.heap.size by omega) | have m2 := up_2 m2 (show _ ≤ w2.heap.size by omega) | have m2 := up_1 m2 (show _ ≤ w2.heap.size by omega) | skip); (first | have m3 := up_7 m3 (show _ ≤ w2.heap.size by omega) | have m3 := up_6 m3 (show _ ≤ w2.heap.size by omega) | have m3 := up_5 m3 (show _ ≤ w2.heap.size by omega) | have m3 := up_4 m3 (show _ ≤ w2.heap.size by omega) | have m3 := up_3 m3 (show _ ≤ w2.heap.size by omega) | have m3 := up_2 m3 (show _ ≤ w2.heap.size by omega) | have m3 := up_1 m3 (show _ ≤ w2.heap.size by omega) | skip); (first | have m4 := up_7 m4 (show _ ≤ w2.heap.size by omega) | have m4 := up_6 m4 (show _ ≤ w2.heap.size by omega) | have m4 := up_5 m4 (show _ ≤ w2.heap.size by omega) | have m4 := up_4 m4 (show _ ≤ w2.heap.size by omega) | have m4 := up_3 m4 (show _ ≤ w2.heap.size by omega) | have m4 := up_2 m4 (show _ ≤ w2.heap.size by omega) | have m4 := up_1 m4 (show _ ≤ w2.heap.size by omega) | skip); (first | have m5 := up_7 m5 (show _ ≤ w2.heap.size by omega) | have m5 := up_6 m5 (show _ ≤ w2.heap.size by omega) | have m5 := up_5 m5 (show _ ≤ w2.heap.size by omega) | have m5 := up_4 m5 (show _ ≤ w2.heap.size by omega) | have m5 := up_3 m5 (show _ ≤ w2.heap.size by omega) | have m5 := up_2 m5 (show _ ≤ w2.heap.size by omega) | have m5 := up_1 m5 (show _ ≤ w2.heap.size by omega) | skip); (first | (have mm := lt_7 hs0; (try have m5 := m4); (try have m4 := m3); (try have m3 := m2); (try have m2 := m1); (try have m1 := m0); have m0 := mm) | (have mm := lt_6 hs0; (try have m5 := m4); (try have m4 := m3); (try have m3 := m2); (try have m2 := m1); (try have m1 := m0); have m0 := mm) | (have mm := lt_5 hs0; (try have m5 := m4); (try have m4 := m3); (try have m3 := m2); (try have m2 := m1); (try have m1 := m0); have m0 := mm) | (have mm := lt_4 hs0; (try have m5 := m4); (try have m4 := m3); (try have m3 := m2); (try have m2 := m1); (try have m1 := m0); have m0 := mm) | (have mm := lt_3 hs0; (try have m5 := m4); (try have m4 := m3); (try have m3 := m2); (try have m2 := m1); (try have m1 := m0); have m0 := mm) | (have mm := lt_2 hs0; (try have m5 := m4); (try have m4 := m3); (try have m3 := m2); (try have m2 := m1); (try have m1 := m0); have m0 := mm) | (have mm := lt_1 hs0; (try have m5 := m4); (try have m4 := m3); (try have m3 := m2); (try have m2 := m1); (try have m1 := m0); have m0 := mm) | skip); clear hs0; clear hb
  go_wp2_with fail
  refine (steps_s _).mono ?_
  rintro e w3 ⟨rfl, hst, hb⟩; have hst0 := Lib.hid hst; clear hst; have hs0 := hb.size; have hB : Below w.heap.size w w3 := below_on (by go_grown) hb; have hz := hB.size; have hc := bcell hb; (try simp only [World.size_alloc, World.size_setCell, World.size_drew] at hs0); (first | have m0 := up_7 m0 (show _ ≤ w3.heap.size by omega) | have m0 := up_6 m0 (show _ ≤ w3.heap.size by omega) | have m0 := up_5 m0 (show _ ≤ w3.heap.size by omega) | have m0 := up_4 m0 (show _ ≤ w3.heap.size by omega) | have m0 := up_3 m0 (show _ ≤ w3.heap.size by omega) | have m0 := up_2 m0 (show _ ≤ w3.heap.size by omega) | have m0 := up_1 m0 (show _ ≤ w3.heap.size by omega) | skip); (first | have m1 := up_7 m1 (show _ ≤ w3.heap.size by omega) | have m1 := up_6 m1 (show _ ≤ w3.heap.size by omega) | have m1 := up_5 m1 (show _ ≤ w3.heap.size by omega) | have m1 := up_4 m1 (show _ ≤ w3.heap.size by omega) | have m1 := up_3 m1 (show _ ≤ w3.heap.size by omega) | have m1 := up_2 m1 (show _ ≤ w3.heap.size by omega) | have m1 := up_1 m1 (show _ ≤ w3.heap.size by omega) | skip); (first | have m2 := up_7 m2 (show _ ≤ w3.heap.size by omega) | have m2 := up_6 m2 (show _ ≤ w3.heap.size by omega) | have m2 := up_5 m2 (show _ ≤ w3.heap.size by omega) | have m2 := up_4 m2 (show _ ≤ w3.heap.size by omega) | have m2 := up_3 m2 (show _ ≤ w3.heap.size by omega) | have m2 := up_2 m2 (show _ ≤ w3.heap.size by omega) | have m2 := up_1 m2 (show _ ≤ w3.heap.size by omega) | skip); (first | have m3 := up_7 m3 (show _ ≤ w3.heap.size by omega) | have m3 := up_6 m3 (show _ ≤ w3.heap.size by omega) | have m3 := up_5 m3 (show _ ≤ w3.heap.size by omega) | have m3 := up_4 m3 (show _ ≤ w3.heap.size by omega) | have m3 := up_3 m3 (show _ ≤ w3.heap.size by omega) | have m3 := up_2 m3 (show _ ≤ w3.heap.size by omega) | have m3 := up_1 m3 (show _ ≤ w3.heap.size by omega) | skip); (first | have m4 := up_7 m4 (show _ ≤ w3.heap.size by omega) | have m4 := up_6 m4 (show _ ≤ w3.heap.size by omega) | have m4 := up_5 m4 (show _ ≤ w3.heap.size by omega) | have m4 := up_4 m4 (show _ ≤ w3.heap.size by omega) | have m4 := up_3 m4 (show _ ≤ w3.heap.size by omega) | have m4 := up_2 m4 (show _ ≤ w3.heap.size by omega) | have m4 := up_1 m4 (show _ ≤ w3.heap.size by omega) | skip); (first | have m5 := up_7 m5 (show _ ≤ w3.heap.size by omega) | have m5 := up_6 m5 (show _ ≤ w3.heap.size by omega) | have m5 := up_5 m5 (show _ ≤ w3.heap.size by omega) | have m5 := up_4 m5 (show _ ≤ w3.heap.size by omega) | have m5 := up_3 m5 (show _ ≤ w3.heap.size by omega) | have m5 := up_2 m5 (show _ ≤ w3.heap.size by omega) | have m5 := up_1 m5 (show _ ≤ w3.heap.size by omega) | skip); (first | (have mm := lt_7 hs0; (try have m5 := m4); (try have m4 := m3); (try have m3 := m2); (try have m2 := m1); (try have m1 := m0); have m0 := mm) | (have mm := lt_6 hs0; (try have m5 := m4); (try have m4 := m3); (try have m3 := m2); (try have m2 := m1); (try have m1 := m0); have m0 := mm) | (have mm := lt_5 hs0; (try have m5 := m4); (try have m4 := m3); (try have m3 := m2); (try have m2 := m1); (try have m1 := m0); have m0 := mm) | (have mm := lt_4 hs0; (try have m5 := m4); (try have m4 := m3); (try have m3 := m2); (try have m2 := m1); (try have m1 := m0); have m0 := mm) | (have mm := lt_3 hs0; (try have m5 := m4); (try have m4 := m3); (try have m3 := m2); (try have m2 := m1); (try have m1 := m0); have m0 := mm) | (have mm := lt_2 hs0; (try have m5 := m4); (try have m4 := m3); (try have m3 := m2); (try have m2 := m1); (try have m1 := m0); have m0 := mm) | (have mm := lt_1 hs0; (try have m5 := m4); (try have m4 := m3); (try have m3 := m2); (try have m2 := m1); (try have m1 := m0); have m0 := mm) | skip); clear hs0; clear hb
  have hW : WR w w2.heap.size (w2.heap.size + 1) al ah bl bh al ah w3 :=
    ⟨by simp [go_sem, *], by simp [go_sem, *], by simp [go_sem, *], by simp [go_sem, *], by simp [go_sem, *], by simp [go_sem, *], by simp [go_sem, *], by simp [go_sem, *],
      by simp [go_sem, *], by simp [go_sem, *], by simp [go_sem, *], by simp [go_sem, *], by simpa using hst0.out, hB, by omega, by omega⟩
  clear hst0
  have f1 := hW.lo; have f2 := hW.hi; have f3 := hW.fl; have f4 := hW.fh; have f5 := hW.al; have f6 := hW.ah; have f7 := hW.bl; have f8 := hW.bh
  go_upto_if 24 with fail
  go_cut [7] (fun s7 wx => WR w w2.heap.size (w2.heap.size + 1) al ah bl bh lo ah wx)
  case first =>
    go_wp2_with fail
    · go_loopw [7] (fun i wr => ∃ k : Nat, k ≤ 11 ∧ i = .int .i64 k ∧ WR w w2.heap.size (w2.heap.size + 1) al ah bl bh (loTo al bl k) ah wr) (fun i _ => 11 - (intOf i).toNat)
      case atStart => exact ⟨0, by omega, rfl, by simpa [loTo] using hW⟩
      case round =>
        obtain ⟨k, hk, rfl, hR⟩ := hrel
        have e1 := hR.lo; have e2 := hR.hi; have e3 := hR.fl; have e4 := hR.fh; have e7 := hR.bl
        by_cases hlt : k < 11
        · have hcell := hR.st k hlt
          go_wp2_with fail
          go_quiet (fail)
          go_wp2_with fail
          · go_roundw
            case rel => exact ⟨k + 1, by omega, by go_num, by rw [loTo_succ _ _ _ hlt, List.getD_eq_getElem?_getD, if_pos (by assumption)]; exact (hR.drewN _).setLo _⟩
            case measure => simp [intOf] <;> omega
          · go_roundw
            case rel => exact ⟨k + 1, by omega, by go_num, by rw [loTo_succ _ _ _ hlt, List.getD_eq_getElem?_getD, if_neg (by omega)]; exact hR.drewN _⟩
            case measure => simp [intOf] <;> omega
        · go_wp2_with fail
          go_meet
          obtain rfl : k = 11 := by omega
          rw [Hlo.out, if_pos (by assumption), ← loTo_all]
          exact hR
    · go_meet
      rw [Hlo.out, if_neg (by omega)]
      exact hW
  case rest =>
    clear hW f1 f2 f3 f4 f5 f6 f7 f8
    have hW := hcut
    clear hcut
    have f1 := hW.lo; have f2 := hW.hi; have f3 := hW.fl; have f4 := hW.fh; have f5 := hW.al; have f6 := hW.ah; have f7 := hW.bl; have f8 := hW.bh
    go_upto_if 47 with fail
    go_cut [8] (fun s8 wx => WR w w2.heap.size (w2.heap.size + 1) al ah bl bh lo hi wx)
    case first =>
      go_wp2_with fail
      · go_loopw [8] (fun i wr => ∃ k : Nat, k ≤ 11 ∧ i = .int .i64 ((k : Int) - 1) ∧ WR w w2.heap.size (w2.heap.size + 1) al ah bl bh lo (hiTo ah bh k) wr) (fun i _ => (intOf i + 1).toNat)
        case atStart => exact ⟨11, by omega, rfl, by simpa [hiTo, stepsL] using hW⟩
        case round =>
          obtain ⟨k, hk, rfl, hR⟩ := hrel
          have e1 := hR.lo; have e2 := hR.hi; have e3 := hR.fl; have e4 := hR.fh; have e8 := hR.bh
          rcases k with _ | k
          · go_wp2_with fail
            go_meet
            rw [Hhi.out, if_pos (by assumption), ← hiTo_all]
            exact hR
          · have hcell := hR.st k (by omega)
            have hlt : k < 11 := by omega
            rw [show ((k + 1 : Nat) : Int) - 1 = (k : Int) from by omega] at *
            go_wp2_with fail
            go_quiet (fail)
            go_wp2_with fail
            · go_roundw
              case rel => exact ⟨k, by omega, by go_num, by rw [hiTo_pred _ _ _ hlt, List.getD_eq_getElem?_getD, if_pos (by assumption)]; exact (hR.drewN _).setHi _⟩
              case measure => simp [intOf] <;> omega
            · go_roundw
              case rel => exact ⟨k, by omega, by go_num, by rw [hiTo_pred _ _ _ hlt, List.getD_eq_getElem?_getD, if_neg (by omega)]; exact hR.drewN _⟩
              case measure => simp [intOf] <;> omega
      · go_meet
        rw [Hhi.out, if_neg (by omega)]
        exact hW
    case rest =>
      have hV := hcut
      clear hcut
      have g1 := hV.lo; have g2 := hV.hi; have g5 := hV.r0; have g6 := hV.r1; have g7 := hV.f0; have g8 := hV.f1
      go_wp2_with fail
      refine bodyPost_ret (by simp [results, Try.results48, go_sem, *]; try rfl) rfl ?_
      exact ⟨rfl, by have := hV.be; go_grown⟩
theorem itvWide_s (al ah bl bh : Int) (w : World) : Calls Try.prog 48 #[.agg #[.int .i64 al, .int .i64 ah], .agg #[.int .i64 bl, .int .i64 bh]] w fun e w' => e = .returned (.agg #[.int .i64 (wideI (al, ah) (bl, bh)).1, .int .i64 (wideI (al, ah) (bl, bh)).2]) ∧ Below w.heap.size w w' := by
  by_cases h : okI (al, ah) = true ∧ okI (bl, bh) = true
  · exact itvWide_yes_s al ah bl bh _ _ w h.1 h.2 (by show _ = _; unfold wideI; rw [if_pos h]) (by show _ = _; unfold wideI; rw [if_pos h])
  · refine itvWide_no_s al ah bl bh w ?_
    cases k1 : okI (al, ah) <;> cases k2 : okI (bl, bh) <;> simp_all
set_option maxHeartbeats 2000000 in
theorem itvWide_no_i (al ah bl bh : Int) (w : World) (h : okB (al, ah) (bl, bh) = false) : Calls Try.prog 49 #[.agg #[.int .i64 al, .int .i64 ah], .agg #[.int .i64 bl, .int .i64 bh]] w fun e w' => e = .returned (.agg #[.int .i64 (wideI (al, ah) (bl, bh)).1, .int .i64 (wideI (al, ah) (bl, bh)).2]) ∧ Below w.heap.size w w' := by
  have hv : wideI (al, ah) (bl, bh) = (0, 0) := by unfold wideI; rw [if_neg ((okB_no _ _).1 h)]
  rw [hv]
  clear hv
  all_goals
    go_enter Try.func49, Try.ntmps49
    go_wp2_with (go_at_call 61; refine (bothOk_i _ _ _ _ _).mono ?_; rintro e w' ⟨rfl, hb⟩; have hs0 := hb.size; have hB : Below w.heap.size w w' := below_on (by ((try go_split_ands); go_grown)) hb; have hz := hB.size; have hc := bcell hb; (try simp only [World.size_alloc, World.size_setCell, World.size_drew] at hs0); (first | have m0 := up_7 m0 (show _ ≤ w'.heap.size by omega) | have m0 := up_6 m0 (show _ ≤ w'.heap.size by omega) | have m0 := up_5 m0 (show _ ≤ w'.heap.size by omega) | have m0 := up_4 m0 (show _ ≤ w'.heap.size by omega) | have m0 := up_3 m0 (show _ ≤ w'.heap.size by omega) | have m0 := up_2 m0 (show _ ≤ w'.heap.size by omega) | have m0 := up_1 m0 (show _ ≤ w'.heap.size by omega) | skip); (first | have m1 := up_7 m1 (show _ ≤ w'.heap.size by omega) | have m1 := up_6 m1 (show _ ≤ w'.heap.size by omega) | have m1 := up_5 m1 (show _ ≤ w'.heap.size by omega) | have m1 := up_4 m1 (show _ ≤ w'.heap.size by omega) | have m1 := up_3 m1 (show _ ≤ w'.heap.size by omega) | have m1 := up_2 m1 (show _ ≤ w'.heap.size by omega) | have m1 := up_1 m1 (show _ ≤ w'.heap.size by omega) | skip); (first | have m2 := up_7 m2 (show _ ≤ w'.heap.size by omega) | have m2 := up_6 m2 (show _ ≤ w'.heap.size by omega) | have m2 := up_5 m2 (show _ ≤ w'.heap.size by omega) | have m2 := up_4 m2 (show _ ≤ w'.heap.size by omega) | have m2 := up_3 m2 (show _ ≤ w'.heap.size by omega) | have m2 := up_2 m2 (show _ ≤ w'.heap.size by omega) | have m2 := up_1 m2 (show _ ≤ w'.heap.size by omega) | skip); (first | have m3 := up_7 m3 (show _ ≤ w'.heap.size by omega) | have m3 := up_6 m3 (show _ ≤ w'.heap.size by omega) | have m3 := up_5 m3 (show _ ≤ w'.heap.size by omega) | have m3 := up_4 m3 (show _ ≤ w'.heap.size by omega) | have m3 := up_3 m3 (show _ ≤ w'.heap.size by omega) | have m3 := up_2 m3 (show _ ≤ w'.heap.size by omega) | have m3 := up_1 m3 (show _ ≤ w'.heap.size by omega) | skip); (first | have m4 := up_7 m4 (show _ ≤ w'.heap.size by omega) | have m4 := up_6 m4 (show _ ≤ w'.heap.size by omega) | have m4 := up_5 m4 (show _ ≤ w'.heap.size by omega) | have m4 := up_4 m4 (show _ ≤ w'.heap.size by omega) | have m4 := up_3 m4 (show _ ≤ w'.heap.size by omega) | have m4 := up_2 m4 (show _ ≤ w'.heap.size by omega) | have m4 := up_1 m4 (show _ ≤ w'.heap.size by omega) | skip); (first | have m5 := up_7 m5 (show _ ≤ w'.heap.size by omega) | have m5 := up_6 m5 (show _ ≤ w'.heap.size by omega) | have m5 := up_5 m5 (show _ ≤ w'.heap.size by omega) | have m5 := up_4 m5 (show _ ≤ w'.heap.size by omega) | have m5 := up_3 m5 (show _ ≤ w'.heap.size by omega) | have m5 := up_2 m5 (show _ ≤ w'.heap.size by omega) | have m5 := up_1 m5 (show _ ≤ w'.heap.size by omega) | skip); (first | (have mm := lt_7 hs0; (try have m5 := m4); (try have m4 := m3); (try have m3 := m2); (try have m2 := m1); (try have m1 := m0); have m0 := mm) | (have mm := lt_6 hs0; (try have m5 := m4); (try have m4 := m3); (try have m3 := m2); (try have m2 := m1); (try have m1 := m0); have m0 := mm) | (have mm := lt_5 hs0; (try have m5 := m4); (try have m4 := m3); (try have m3 := m2); (try have m2 := m1); (try have m1 := m0); have m0 := mm) | (have mm := lt_4 hs0; (try have m5 := m4); (try have m4 := m3); (try have m3 := m2); (try have m2 := m1); (try have m1 := m0); have m0 := mm) | (have mm := lt_3 hs0; (try have m5 := m4); (try have m4 := m3); (try have m3 := m2); (try have m2 := m1); (try have m1 := m0); have m0 := mm) | (have mm := lt_2 hs0; (try have m5 := m4); (try have m4 := m3); (try have m3 := m2); (try have m2 := m1); (try have m1 := m0); have m0 := mm) | (have mm := lt_1 hs0; (try have m5 := m4); (try have m4 := m3); (try have m3 := m2); (try have m2 := m1); (try have m1 := m0); have m0 := mm) | skip); clear hs0; clear hb)
    refine bodyPost_ret (by simp [results, Try.results49, go_sem, *]; try rfl) rfl ?_
    exact ⟨rfl, by go_grown⟩
set_option maxHeartbeats 4000000 in
theorem itvWide_yes_i (al ah bl bh lo hi : Int) (w : World) (ha : okB (al, ah) (bl, bh) = true) (Hlo : Hid (lo = if bl < al then stepLo al bl else al)) (Hhi : Hid (hi = if ah < bh then stepHi ah bh else ah)) : Calls Try.prog 49 #[.agg #[.int .i64 al, .int .i64 ah], .agg #[.int .i64 bl, .int .i64 bh]] w fun e w' => e = .returned (.agg #[.int .i64 lo, .int .i64 hi]) ∧ Below w.heap.size w w' := by
  go_enter Try.func49, Try.ntmps49
  go_wp2_with fail
  refine (bothOk_i _ _ _ _ _).mono ?_
  rintro e w1 ⟨rfl, hb⟩; have hs0 := hb.size; have hB : Below w.heap.size w w1 := below_on (by ((try go_split_ands); go_grown)) hb; have hz := hB.size; have hc := bcell hb; (try simp only [World.size_alloc, World.size_setCell, World.size_drew] at hs0); (first | have m0 := up_7 m0 (show _ ≤ w1.heap.size by omega) | have m0 := up_6 m0 (show _ ≤ w1.heap.size by omega) | have m0 := up_5 m0 (show _ ≤ w1.heap.size by omega) | have m0 := up_4 m0 (show _ ≤ w1.heap.size by omega) | have m0 := up_3 m0 (show _ ≤ w1.heap.size by omega) | have m0 := up_2 m0 (show _ ≤ w1.heap.size by omega) | have m0 := up_1 m0 (show _ ≤ w1.heap.size by omega) | skip); (first | have m1 := up_7 m1 (show _ ≤ w1.heap.size by omega) | have m1 := up_6 m1 (show _ ≤ w1.heap.size by omega) | have m1 := up_5 m1 (show _ ≤ w1.heap.size by omega) | have m1 := up_4 m1 (show _ ≤ w1.heap.size by omega) | have m1 := up_3 m1 (show _ ≤ w1.heap.size by omega) | have m1 := up_2 m1 (show _ ≤ w1.heap.size by omega) | have m1 := up_1 m1 (show _ ≤ w1.heap.size by omega) | skip); (first | have m2 := up_7 m2 (show _ ≤ w1.heap.size by omega) | have m2 := up_6 m2 (show _ ≤ w1.heap.size by omega) | have m2 := up_5 m2 (show _ ≤ w1.heap.size by omega) | have m2 := up_4 m2 (show _ ≤ w1.heap.size by omega) | have m2 := up_3 m2 (show _ ≤ w1.heap.size by omega) | have m2 := up_2 m2 (show _ ≤ w1.heap.size by omega) | have m2 := up_1 m2 (show _ ≤ w1.heap.size by omega) | skip); (first | have m3 := up_7 m3 (show _ ≤ w1.heap.size by omega) | have m3 := up_6 m3 (show _ ≤ w1.heap.size by omega) | have m3 := up_5 m3 (show _ ≤ w1.heap.size by omega) | have m3 := up_4 m3 (show _ ≤ w1.heap.size by omega) | have m3 := up_3 m3 (show _ ≤ w1.heap.size by omega) | have m3 := up_2 m3 (show _ ≤ w1.heap.size by omega) | have m3 := up_1 m3 (show _ ≤ w1.heap.size by omega) | skip); (first | have m4 := up_7 m4 (show _ ≤ w1.heap.size by omega) | have m4 := up_6 m4 (show _ ≤ w1.heap.size by omega) | have m4 := up_5 m4 (show _ ≤ w1.heap.size by omega) | have m4 := up_4 m4 (show _ ≤ w1.heap.size by omega) | have m4 := up_3 m4 (show _ ≤ w1.heap.size by omega) | have m4 := up_2 m4 (show _ ≤ w1.heap.size by omega) | have m4 := up_1 m4 (show _ ≤ w1.heap.size by omega) | skip); (first | have m5 := up_7 m5 (show _ ≤ w1.heap.size by omega) | have m5 := up_6 m5 (show _ ≤ w1.heap.size by omega) | have m5 := up_5 m5 (show _ ≤ w1.heap.size by omega) | have m5 := up_4 m5 (show _ ≤ w1.heap.size by omega) | have m5 := up_3 m5 (show _ ≤ w1.heap.size by omega) | have m5 := up_2 m5 (show _ ≤ w1.heap.size by omega) | have m5 := up_1 m5 (show _ ≤ w1.heap.size by omega) | skip); (first | (have mm := lt_7 hs0; (try have m5 := m4); (try have m4 := m3); (try have m3 := m2); (try have m2 := m1); (try have m1 := m0); have m0 := mm) | (have mm := lt_6 hs0; (try have m5 := m4); (try have m4 := m3); (try have m3 := m2); (try have m2 := m1); (try have m1 := m0); have m0 := mm) | (have mm := lt_5 hs0; (try have m5 := m4); (try have m4 := m3); (try have m3 := m2); (try have m2 := m1); (try have m1 := m0); have m0 := mm) | (have mm := lt_4 hs0; (try have m5 := m4); (try have m4 := m3); (try have m3 := m2); (try have m2 := m1); (try have m1 := m0); have m0 := mm) | (have mm := lt_3 hs0; (try have m5 := m4); (try have m4 := m3); (try have m3 := m2); (try have m2 := m1); (try have m1 := m0); have m0 := mm) | (have mm := lt_2 hs0; (try have m5 := m4); (try have m4 := m3); (try have m3 := m2); (try have m2 := m1); (try have m1 := m0); have m0 := mm) | (have mm := lt_1 hs0; (try have m5 := m4); (try have m4 := m3); (try have m3 := m2); (try have m2 := m1); (try have m1 := m0); have m0 := mm) | skip); clear hs0; clear hb
  go_wp2_with fail
  refine (steps_i _).mono ?_
  rintro e w2 ⟨rfl, hst, hb⟩; have hst0 := Lib.hid hst; clear hst; have hs0 := hb.size; have hB : Below w.heap.size w w2 := below_on (by go_grown) hb; have hz := hB.size; have hc := bcell hb; (try simp only [World.size_alloc, World.size_setCell, World.size_drew] at hs0); (first | have m0 := up_7 m0 (show _ ≤ w2.heap.size by omega) | have m0 := up_6 m0 (show _ ≤ w2.heap.size by omega) | have m0 := up_5 m0 (show _ ≤ w2.heap.size by omega) | have m0 := up_4 m0 (show _ ≤ w2.heap.size by omega) | have m0 := up_3 m0 (show _ ≤ w2.heap.size by omega) | have m0 := up_2 m0 (show _ ≤ w2.heap.size by omega) | have m0 := up_1 m0 (show _ ≤ w2.heap.size by omega) | skip); (first | have m1 := up_7 m1 (show _ ≤ w2.heap.size by omega) | have m1 := up_6 m1 (show _ ≤ w2.heap.size by omega) | have m1 := up_5 m1 (show _ ≤ w2.heap.size by omega) | have m1 := up_4 m1 (show _ ≤ w2.heap.size by omega) | have m1 := up_3 m1 (show _ ≤ w2.heap.size by omega) | have m1 := up_2 m1 (show _ ≤ w2.heap.size by omega) | have m1 := up_1 m1 (show _ ≤ w2.heap.size by omega) | skip); (first | have m2 := up_7 m2 (show _ ≤ w2.heap.size by omega) | have m2 := up_6 m2 (show _ ≤ w2.heap.size by omega) | have m2 := up_5 m2 (show _ ≤ w2.heap.size by omega) | have m2 := up_4 m2 (show _ ≤ w2.heap.size by omega) | have m2 := up_3 m2 (show _ ≤ w2.heap.size by omega) | have m2 := up_2 m2 (show _ ≤ w2.heap.size by omega) | have m2 := up_1 m2 (show _ ≤ w2.heap.size by omega) | skip); (first | have m3 := up_7 m3 (show _ ≤ w2.heap.size by omega) | have m3 := up_6 m3 (show _ ≤ w2.heap.size by omega) | have m3 := up_5 m3 (show _ ≤ w2.heap.size by omega) | have m3 := up_4 m3 (show _ ≤ w2.heap.size by omega) | have m3 := up_3 m3 (show _ ≤ w2.heap.size by omega) | have m3 := up_2 m3 (show _ ≤ w2.heap.size by omega) | have m3 := up_1 m3 (show _ ≤ w2.heap.size by omega) | skip); (first | have m4 := up_7 m4 (show _ ≤ w2.heap.size by omega) | have m4 := up_6 m4 (show _ ≤ w2.heap.size by omega) | have m4 := up_5 m4 (show _ ≤ w2.heap.size by omega) | have m4 := up_4 m4 (show _ ≤ w2.heap.size by omega) | have m4 := up_3 m4 (show _ ≤ w2.heap.size by omega) | have m4 := up_2 m4 (show _ ≤ w2.heap.size by omega) | have m4 := up_1 m4 (show _ ≤ w2.heap.size by omega) | skip); (first | have m5 := up_7 m5 (show _ ≤ w2.heap.size by omega) | have m5 := up_6 m5 (show _ ≤ w2.heap.size by omega) | have m5 := up_5 m5 (show _ ≤ w2.heap.size by omega) | have m5 := up_4 m5 (show _ ≤ w2.heap.size by omega) | have m5 := up_3 m5 (show _ ≤ w2.heap.size by omega) | have m5 := up_2 m5 (show _ ≤ w2.heap.size by omega) | have m5 := up_1 m5 (show _ ≤ w2.heap.size by omega) | skip); (first | (have mm := lt_7 hs0; (try have m5 := m4); (try have m4 := m3); (try have m3 := m2); (try have m2 := m1); (try have m1 := m0); have m0 := mm) | (have mm := lt_6 hs0; (try have m5 := m4); (try have m4 := m3); (try have m3 := m2); (try have m2 := m1); (try have m1 := m0); have m0 := mm) | (have mm := lt_5 hs0; (try have m5 := m4); (try have m4 := m3); (try have m3 := m2); (try have m2 := m1); (try have m1 := m0); have m0 := mm) | (have mm := lt_4 hs0; (try have m5 := m4); (try have m4 := m3); (try have m3 := m2); (try have m2 := m1); (try have m1 := m0); have m0 := mm) | (have mm := lt_3 hs0; (try have m5 := m4); (try have m4 := m3); (try have m3 := m2); (try have m2 := m1); (try have m1 := m0); have m0 := mm) | (have mm := lt_2 hs0; (try have m5 := m4); (try have m4 := m3); (try have m3 := m2); (try have m2 := m1); (try have m1 := m0); have m0 := mm) | (have mm := lt_1 hs0; (try have m5 := m4); (try have m4 := m3); (try have m3 := m2); (try have m2 := m1); (try have m1 := m0); have m0 := mm) | skip); clear hs0
  have hg := Lib.hid (Nat.lt_of_lt_of_le (World.block_lt_of_cell? _ _ (hst0.out 0 (by decide))) (Nat.le_refl _))
  clear hb
  have hW : WR w w2.heap.size w1.heap.size al ah bl bh al ah (w2.alloc (.cells #[.int .i64 al, .int .i64 ah] 27)) :=
    ⟨by simp [go_sem, *], by simp [go_sem, *], by simp [go_sem, *], by simp [go_sem, *], by simp [go_sem, *], by simp [go_sem, *], by simp [go_sem, *], by simp [go_sem, *],
      by simp [go_sem, *], by simp [go_sem, *], by simp [go_sem, *], by simp [go_sem, *], fun k hk => keep_alloc _ (hst0.out k hk), below_alloc _ hB, by have h := hg.out; simp only at h; omega, by omega⟩
  clear hst0 hg
  have f1 := hW.lo; have f2 := hW.hi; have f3 := hW.fl; have f4 := hW.fh; have f5 := hW.al; have f6 := hW.ah; have f7 := hW.bl; have f8 := hW.bh
  go_upto_if 21 with fail
  go_cut [8] (fun s7 wx => WR w w2.heap.size w1.heap.size al ah bl bh lo ah wx)
  case first =>
    go_wp2_with fail
    · go_loopw [24] (fun i wr => ∃ k : Nat, k ≤ 11 ∧ i = .int .i64 k ∧ WR w w2.heap.size w1.heap.size al ah bl bh (loTo al bl k) ah wr) (fun i _ => 11 - (intOf i).toNat)
      case atStart => exact ⟨0, by omega, rfl, by simpa [loTo] using hW⟩
      case round =>
        obtain ⟨k, hk, rfl, hR⟩ := hrel
        have e1 := hR.lo; have e2 := hR.hi; have e3 := hR.fl; have e4 := hR.fh; have e7 := hR.bl
        by_cases hlt : k < 11
        · have hcell := hR.st k hlt
          go_wp2_with fail
          · go_roundw
            case rel => exact ⟨k + 1, by omega, by go_num, by rw [loTo_succ _ _ _ hlt, List.getD_eq_getElem?_getD, if_pos (by assumption)]; exact hR.setLo _⟩
            case measure => simp [intOf] <;> omega
          · go_roundw
            case rel => exact ⟨k + 1, by omega, by go_num, by rw [loTo_succ _ _ _ hlt, List.getD_eq_getElem?_getD, if_neg (by omega)]; exact hR⟩
            case measure => simp [intOf] <;> omega
        · go_wp2_with fail
          go_meet
          obtain rfl : k = 11 := by omega
          rw [Hlo.out, if_pos (by assumption), ← loTo_all]
          exact hR
    · go_meet
      rw [Hlo.out, if_neg (by omega)]
      exact hW
  case rest =>
    clear hW f1 f2 f3 f4 f5 f6 f7 f8
    have hW := hcut
    clear hcut
    have f1 := hW.lo; have f2 := hW.hi; have f3 := hW.fl; have f4 := hW.fh; have f5 := hW.al; have f6 := hW.ah; have f7 := hW.bl; have f8 := hW.bh
    go_upto_if 39 with fail
    go_cut [9] (fun s8 wx => WR w w2.heap.size w1.heap.size al ah bl bh lo hi wx)
    case first =>
      go_wp2_with fail
      · go_loopw [9] (fun i wr => ∃ k : Nat, k ≤ 11 ∧ i = .int .i64 ((k : Int) - 1) ∧ WR w w2.heap.size w1.heap.size al ah bl bh lo (hiTo ah bh k) wr) (fun i _ => (intOf i + 1).toNat)
        case atStart => exact ⟨11, by omega, rfl, by simpa [hiTo, stepsL] using hW⟩
        case round =>
          obtain ⟨k, hk, rfl, hR⟩ := hrel
          have e1 := hR.lo; have e2 := hR.hi; have e3 := hR.fl; have e4 := hR.fh; have e8 := hR.bh
          rcases k with _ | k
          · go_wp2_with fail
            go_meet
            rw [Hhi.out, if_pos (by assumption), ← hiTo_all]
            exact hR
          · have hcell := hR.st k (by omega)
            have hlt : k < 11 := by omega
            rw [show ((k + 1 : Nat) : Int) - 1 = (k : Int) from by omega] at *
            go_wp2_with fail
            go_quiet (fail)
            go_wp2_with fail
            · go_roundw
              case rel => exact ⟨k, by omega, by go_num, by rw [hiTo_pred _ _ _ hlt, List.getD_eq_getElem?_getD, if_pos (by assumption)]; exact (hR.drewN _).setHi _⟩
              case measure => simp [intOf] <;> omega
            · go_roundw
              case rel => exact ⟨k, by omega, by go_num, by rw [hiTo_pred _ _ _ hlt, List.getD_eq_getElem?_getD, if_neg (by omega)]; exact hR.drewN _⟩
              case measure => simp [intOf] <;> omega
      · go_meet
        rw [Hhi.out, if_neg (by omega)]
        exact hW
    case rest =>
      have hV := hcut
      clear hcut
      have g1 := hV.lo; have g2 := hV.hi; have g5 := hV.r0; have g6 := hV.r1; have g7 := hV.f0; have g8 := hV.f1
      go_wp2_with fail
      refine bodyPost_ret (by simp [results, Try.results49, go_sem, *]; try rfl) rfl ?_
      exact ⟨rfl, by have := hV.be; go_grown⟩
theorem itvWide_i (al ah bl bh : Int) (w : World) : Calls Try.prog 49 #[.agg #[.int .i64 al, .int .i64 ah], .agg #[.int .i64 bl, .int .i64 bh]] w fun e w' => e = .returned (.agg #[.int .i64 (wideI (al, ah) (bl, bh)).1, .int .i64 (wideI (al, ah) (bl, bh)).2]) ∧ Below w.heap.size w w' := by
  by_cases h : okI (al, ah) = true ∧ okI (bl, bh) = true
  · exact itvWide_yes_i al ah bl bh _ _ w ((okB_iff _ _).2 h) (by show _ = _; unfold wideI; rw [if_pos h]) (by show _ = _; unfold wideI; rw [if_pos h])
  · exact itvWide_no_i al ah bl bh w ((okB_no _ _).2 h)
end Go.Proofs.Ytdpooiiacdfpkaa
