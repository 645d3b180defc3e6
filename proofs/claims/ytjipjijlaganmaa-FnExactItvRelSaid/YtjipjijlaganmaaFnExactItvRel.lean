/-
  FnExactItvRel: for every input the law returns true, and its arguments read as before. No conditions.
-/
import Derived.Test.YtjipjijlaganmaaRel3
import Derived.Test.YtjipjijlaganmaaInv
namespace Go.Proofs.Ytjipjijlaganmaa.fnExactItvRel
set_option linter.unusedSimpArgs false
set_option linter.unusedVariables false
open Go.ChangeShapes Go.WideShapes Go.ChangeAt Go.RowKit
open Go.ChangeMaps (open_string shut_string)

theorem rel_s_at {rel al ah bl bh xl xh yl yh : Int} {ok : Bool} (h : relI rel (al, ah) (bl, bh) = ((xl, xh), (yl, yh), ok)) (w : World) : Calls Try.prog 9 #[.int .i64 rel, .agg #[.int .i64 al, .int .i64 ah], .agg #[.int .i64 bl, .int .i64 bh]] w fun e w' => e = .returned (.tuple #[.agg #[.int .i64 xl, .int .i64 xh], .agg #[.int .i64 yl, .int .i64 yh], .bool ok]) ∧ Below w.heap.size w w' := by
  have k := itvRel_s rel al ah bl bh w
  rw [h] at k
  exact k
theorem rel_at {rel al ah bl bh xl xh yl yh : Int} {ok : Bool} (h : relI rel (al, ah) (bl, bh) = ((xl, xh), (yl, yh), ok)) (w : World) : Calls Try.prog 11 #[.int .i64 rel, .agg #[.int .i64 al, .int .i64 ah], .agg #[.int .i64 bl, .int .i64 bh]] w fun e w' => e = .returned (.tuple #[.agg #[.int .i64 xl, .int .i64 xh], .agg #[.int .i64 yl, .int .i64 yh], .bool ok]) ∧ Below w.heap.size w w' := by
  have k := itvRel_i_ rel al ah bl bh w
  rw [h] at k
  exact k
set_option maxRecDepth 100000 in
set_option maxHeartbeats 40000000 in
theorem walk (a0 : Int) (a1 b1 : Int) (a2 b2 : Int) (w : World) (w0 : (Lit.int .i64 a0).wf = true) (wa1 : (Lit.int .i64 a1).wf = true) (wb1 : (Lit.int .i64 b1).wf = true) (wa2 : (Lit.int .i64 a2).wf = true) (wb2 : (Lit.int .i64 b2).wf = true) :
    Calls Try.prog 4 #[.int .i64 a0, .agg #[.int .i64 a1, .int .i64 b1], .agg #[.int .i64 a2, .int .i64 b2]] w fun e w' => e = .returned (.bool true) ∧ Below w.heap.size w w' := by
  go_enter Try.func4, Try.ntmps4
  clear w0 wa1 wb1 wa2 wb2
  obtain ⟨⟨⟨xl, xh⟩, ⟨yl, yh⟩, ok⟩, hx⟩ : ∃ r, r = relI a0 (a1, b1) (a2, b2) := ⟨_, rfl⟩
  have Hx := Lib.hid hx.symm
  clear hx
  go_upto_region 0 with fail
  go_cut [4, 5, 6] (fun q1 q2 q wx => ∃ W, W = wx ∧ q1 = .pointer (some ⟨w.heap.size, 0, none⟩) ∧ q2 = .pointer (some ⟨w.heap.size + 1, 0, none⟩) ∧ q = .bool false ∧ wx.cell? ⟨w.heap.size, 0, none⟩ = some (.int .i64 a1) ∧ wx.cell? ⟨w.heap.size, 1, none⟩ = some (.int .i64 b1) ∧ wx.cell? ⟨w.heap.size + 1, 0, none⟩ = some (.int .i64 a2) ∧ wx.cell? ⟨w.heap.size + 1, 1, none⟩ = some (.int .i64 b2) ∧ Below w.heap.size w wx)
  case first =>
    go_wp2_with fail
    go_meet
    exact ⟨_, rfl, rfl, rfl, rfl, by simp [go_sem], by simp [go_sem], by simp [go_sem], by simp [go_sem], by go_grown⟩
  case rest =>
  obtain ⟨W0, rfl, rfl, rfl, rfl, c1a, c1b, c2a, c2b, hB0⟩ := hcut
  go_upto_region 1 with fail
  go_cut [7, 8, 9] (fun s7 s8 sb wx => ∃ W, W = wx ∧ ∃ g g2 : Nat, s7 = .pointer (some ⟨g, 0, none⟩) ∧ s8 = .pointer (some ⟨g2, 0, none⟩) ∧ sb = .bool ok ∧ Blk wx g 27 #[.int .i64 xl, .int .i64 xh] ∧ Blk wx g2 27 #[.int .i64 yl, .int .i64 yh] ∧ Below W0.heap.size W0 wx)
  case first =>
    refine region_inv (fun listed a w' => ∃ (p0 p1 p2 p3 p4 p5 p6 p7 p8 p9 p10 p11 p12 p13 p14 : Bool) (x0 x1 x2 x3 x4 x5 x6 x7 x8 x9 x10 x11 x14 : Value) (j j2 : Nat), listed = #[p0, p1, p2, p3, p4, p5, p6, p7, p8, p9, p10, p11, p12, p13, p14] ∧ a = ⟨#[.int .i64 a0, .agg #[.int .i64 a1, .int .i64 b1], .agg #[.int .i64 a2, .int .i64 b2], undef, .pointer (some ⟨w.heap.size, 0, none⟩), .pointer (some ⟨w.heap.size + 1, 0, none⟩), .bool false, x10, x11, x14, undef, undef, undef, x6, x0, x1, x2, x3, x4, x5, x7, x8, x9, u23, u24, u25, u26, u27, u28, u29, u30, u31, u32, u33, u34, u35, u36, u37, u38, u39, u40, u41, u42, u43, u44, u45, u46, u47], []⟩ ∧ (p0 = true → x0 = .int .i64 a0) ∧ (p1 = true → x1 = .agg #[.int .i64 a1, .int .i64 b1]) ∧ (p2 = true → x2 = .agg #[.int .i64 a1, .int .i64 b1]) ∧ (p3 = true → x3 = .agg #[.int .i64 a2, .int .i64 b2]) ∧ (p4 = true → x4 = .agg #[.int .i64 a2, .int .i64 b2]) ∧ (p5 = true → x5 = .tuple #[.agg #[.int .i64 xl, .int .i64 xh], .agg #[.int .i64 yl, .int .i64 yh], .bool ok]) ∧ (p6 = true → x6 = .tuple #[.agg #[.int .i64 xl, .int .i64 xh], .agg #[.int .i64 yl, .int .i64 yh], .bool ok]) ∧ (p7 = true → x7 = .agg #[.int .i64 xl, .int .i64 xh]) ∧ (p8 = true → x8 = .agg #[.int .i64 yl, .int .i64 yh]) ∧ (p9 = true → x9 = .bool ok) ∧ (p14 = true → x14 = .bool ok) ∧ Below W0.heap.size W0 w' ∧ (p10 = true → x10 = .pointer (some ⟨j, 0, none⟩) ∧ W0.heap.size ≤ j ∧ j < w'.heap.size) ∧ (p11 = true → x11 = .pointer (some ⟨j2, 0, none⟩) ∧ W0.heap.size ≤ j2 ∧ j2 < w'.heap.size) ∧ (p10 = true → p11 = true → j ≠ j2) ∧ (p10 = true → p12 = false → Blk w' j 27 #[.int .i64 0, .int .i64 0]) ∧ (p11 = true → p13 = false → Blk w' j2 27 #[.int .i64 0, .int .i64 0]) ∧ (p12 = true → Blk w' j 27 #[.int .i64 xl, .int .i64 xh]) ∧ (p13 = true → Blk w' j2 27 #[.int .i64 yl, .int .i64 yh]) ∧ (p12 = true → p10 = true) ∧ (p13 = true → p11 = true)) (by kernel_rfl) (by kernel_rfl) ?hz ?h0 ?hs ?hend
    case hz =>
      rintro listed a w1 ⟨p0, p1, p2, p3, p4, p5, p6, p7, p8, p9, p10, p11, p12, p13, p14, x0, x1, x2, x3, x4, x5, x6, x7, x8, x9, x10, x11, x14, j, j2, rfl, -⟩
      rfl
    case h0 => exact ⟨false, false, false, false, false, false, false, false, false, false, false, false, false, false, false, _, _, _, _, _, _, _, _, _, _, _, _, _, 0, 0, rfl, rfl, (fun h => by cases h), (fun h => by cases h), (fun h => by cases h), (fun h => by cases h), (fun h => by cases h), (fun h => by cases h), (fun h => by cases h), (fun h => by cases h), (fun h => by cases h), (fun h => by cases h), (fun h => by cases h), (Below.refl _ _).drew, (fun h => by cases h), (fun h => by cases h), (fun h => by cases h), (fun h => by cases h), (fun h => by cases h), (fun h => by cases h), (fun h => by cases h), (fun h => by cases h), (fun h => by cases h)⟩
    case hs =>
      refine AllSteps.cons ?_ <| AllSteps.cons ?_ <| AllSteps.cons ?_ <| AllSteps.cons ?_ <| AllSteps.cons ?_ <| AllSteps.cons ?_ <| AllSteps.cons ?_ <| AllSteps.cons ?_ <| AllSteps.cons ?_ <| AllSteps.cons ?_ <| AllSteps.cons ?_ <| AllSteps.cons ?_ <| AllSteps.cons ?_ <| AllSteps.cons ?_ <| AllSteps.cons ?_ <| AllSteps.nil
      · refine StepOf.plain rfl ?_
        go_light
        intro listed a w1 hI h0 ha K hK
        obtain ⟨p0, p1, p2, p3, p4, p5, p6, p7, p8, p9, p10, p11, p12, p13, p14, x0, x1, x2, x3, x4, x5, x6, x7, x8, x9, x10, x11, x14, j, j2, rfl, rfl, f0, f1, f2, f3, f4, f5, f6, f7, f8, f9, f14, hB, fj, fj2, hne, z1, z2, c1, c2, d1, d2⟩ := hI
        have e0 : p0 = false := h0
        clear ha h0
        subst e0
        go_simp
        refine hK.out _ _ ?_
        exact ⟨true, p1, p2, p3, p4, p5, p6, p7, p8, p9, p10, p11, p12, p13, p14, _, _, _, _, _, _, _, _, _, _, _, _, _, j, j2, rfl, rfl, (fun _ => rfl), (f1), (f2), (f3), (f4), (f5), (f6), (f7), (f8), (f9), (f14), (hB), (fj), (fj2), (hne), (z1), (z2), (c1), (c2), (d1), (d2)⟩
      · refine StepOf.plain rfl ?_
        go_light
        intro listed a w1 hI h0 ha K hK
        obtain ⟨p0, p1, p2, p3, p4, p5, p6, p7, p8, p9, p10, p11, p12, p13, p14, x0, x1, x2, x3, x4, x5, x6, x7, x8, x9, x10, x11, x14, j, j2, rfl, rfl, f0, f1, f2, f3, f4, f5, f6, f7, f8, f9, f14, hB, fj, fj2, hne, z1, z2, c1, c2, d1, d2⟩ := hI
        have e0 : p1 = false := h0
        clear ha h0
        subst e0
        have q0 := (hB.cell (p := ⟨w.heap.size, 0, none⟩) (blk c1a)).trans c1a
        have q1 := (hB.cell (p := ⟨w.heap.size, 1, none⟩) (blk c1b)).trans c1b
        go_simp
        refine hK.out _ _ ?_
        exact ⟨p0, true, p2, p3, p4, p5, p6, p7, p8, p9, p10, p11, p12, p13, p14, _, _, _, _, _, _, _, _, _, _, _, _, _, j, j2, rfl, rfl, (f0), (fun _ => rfl), (f2), (f3), (f4), (f5), (f6), (f7), (f8), (f9), (f14), (hB), (fj), (fj2), (hne), (z1), (z2), (c1), (c2), (d1), (d2)⟩
      · refine StepOf.plain rfl ?_
        go_light
        intro listed a w1 hI h0 ha K hK
        obtain ⟨p0, p1, p2, p3, p4, p5, p6, p7, p8, p9, p10, p11, p12, p13, p14, x0, x1, x2, x3, x4, x5, x6, x7, x8, x9, x10, x11, x14, j, j2, rfl, rfl, f0, f1, f2, f3, f4, f5, f6, f7, f8, f9, f14, hB, fj, fj2, hne, z1, z2, c1, c2, d1, d2⟩ := hI
        have e0 : p2 = false := h0
        have g1 : p1 = true := by revert ha; cases p1 <;> simp [Region.binds]
        clear ha h0
        subst e0 g1
        obtain rfl := f1 rfl
        go_simp
        refine (toItv_l _ _ _).mono ?_; rintro e w2 ⟨rfl, hb⟩
        go_wp2_with fail
        refine hK.out _ _ ?_
        exact ⟨p0, true, true, p3, p4, p5, p6, p7, p8, p9, p10, p11, p12, p13, p14, _, _, _, _, _, _, _, _, _, _, _, _, _, j, j2, rfl, rfl, (f0), (fun _ => rfl), (fun _ => rfl), (f3), (f4), (f5), (f6), (f7), (f8), (f9), (f14), (below_on hB hb), (fun h => ⟨(fj h).1, (fj h).2.1, Nat.lt_of_lt_of_le (fj h).2.2 hb.size⟩), (fun h => ⟨(fj2 h).1, (fj2 h).2.1, Nat.lt_of_lt_of_le (fj2 h).2.2 hb.size⟩), (hne), (fun h i => (z1 h i).below hb), (fun h i => (z2 h i).below hb), (fun h => (c1 h).below hb), (fun h => (c2 h).below hb), (d1), (d2)⟩
      · refine StepOf.plain rfl ?_
        go_light
        intro listed a w1 hI h0 ha K hK
        obtain ⟨p0, p1, p2, p3, p4, p5, p6, p7, p8, p9, p10, p11, p12, p13, p14, x0, x1, x2, x3, x4, x5, x6, x7, x8, x9, x10, x11, x14, j, j2, rfl, rfl, f0, f1, f2, f3, f4, f5, f6, f7, f8, f9, f14, hB, fj, fj2, hne, z1, z2, c1, c2, d1, d2⟩ := hI
        have e0 : p3 = false := h0
        clear ha h0
        subst e0
        have q0 := (hB.cell (p := ⟨w.heap.size + 1, 0, none⟩) (blk c2a)).trans c2a
        have q1 := (hB.cell (p := ⟨w.heap.size + 1, 1, none⟩) (blk c2b)).trans c2b
        go_simp
        refine hK.out _ _ ?_
        exact ⟨p0, p1, p2, true, p4, p5, p6, p7, p8, p9, p10, p11, p12, p13, p14, _, _, _, _, _, _, _, _, _, _, _, _, _, j, j2, rfl, rfl, (f0), (f1), (f2), (fun _ => rfl), (f4), (f5), (f6), (f7), (f8), (f9), (f14), (hB), (fj), (fj2), (hne), (z1), (z2), (c1), (c2), (d1), (d2)⟩
      · refine StepOf.plain rfl ?_
        go_light
        intro listed a w1 hI h0 ha K hK
        obtain ⟨p0, p1, p2, p3, p4, p5, p6, p7, p8, p9, p10, p11, p12, p13, p14, x0, x1, x2, x3, x4, x5, x6, x7, x8, x9, x10, x11, x14, j, j2, rfl, rfl, f0, f1, f2, f3, f4, f5, f6, f7, f8, f9, f14, hB, fj, fj2, hne, z1, z2, c1, c2, d1, d2⟩ := hI
        have e0 : p4 = false := h0
        have g3 : p3 = true := by revert ha; cases p3 <;> simp [Region.binds]
        have g2 : p2 = true := by revert ha; cases p2 <;> simp [Region.binds]
        clear ha h0
        subst e0 g3 g2
        obtain rfl := f3 rfl
        obtain rfl := f2 rfl
        go_simp
        refine (toItv_l _ _ _).mono ?_; rintro e w2 ⟨rfl, hb⟩
        go_wp2_with fail
        refine hK.out _ _ ?_
        exact ⟨p0, p1, true, true, true, p5, p6, p7, p8, p9, p10, p11, p12, p13, p14, _, _, _, _, _, _, _, _, _, _, _, _, _, j, j2, rfl, rfl, (f0), (f1), (fun _ => rfl), (fun _ => rfl), (fun _ => rfl), (f5), (f6), (f7), (f8), (f9), (f14), (below_on hB hb), (fun h => ⟨(fj h).1, (fj h).2.1, Nat.lt_of_lt_of_le (fj h).2.2 hb.size⟩), (fun h => ⟨(fj2 h).1, (fj2 h).2.1, Nat.lt_of_lt_of_le (fj2 h).2.2 hb.size⟩), (hne), (fun h i => (z1 h i).below hb), (fun h i => (z2 h i).below hb), (fun h => (c1 h).below hb), (fun h => (c2 h).below hb), (d1), (d2)⟩
      · refine StepOf.plain rfl ?_
        go_light
        intro listed a w1 hI h0 ha K hK
        obtain ⟨p0, p1, p2, p3, p4, p5, p6, p7, p8, p9, p10, p11, p12, p13, p14, x0, x1, x2, x3, x4, x5, x6, x7, x8, x9, x10, x11, x14, j, j2, rfl, rfl, f0, f1, f2, f3, f4, f5, f6, f7, f8, f9, f14, hB, fj, fj2, hne, z1, z2, c1, c2, d1, d2⟩ := hI
        have e0 : p5 = false := h0
        have g0 : p0 = true := by revert ha; cases p0 <;> simp [Region.binds]
        have g2 : p2 = true := by revert ha; cases p2 <;> simp [Region.binds]
        have g4 : p4 = true := by revert ha; cases p4 <;> simp [Region.binds]
        clear ha h0
        subst e0 g0 g2 g4
        obtain rfl := f0 rfl
        obtain rfl := f2 rfl
        obtain rfl := f4 rfl
        go_simp
        refine (rel_s_at Hx.out _).mono ?_; rintro e w2 ⟨rfl, hb⟩
        go_wp2_with fail
        refine hK.out _ _ ?_
        exact ⟨true, p1, true, p3, true, true, p6, p7, p8, p9, p10, p11, p12, p13, p14, _, _, _, _, _, _, _, _, _, _, _, _, _, j, j2, rfl, rfl, (fun _ => rfl), (f1), (fun _ => rfl), (f3), (fun _ => rfl), (fun _ => rfl), (f6), (f7), (f8), (f9), (f14), (below_on hB hb), (fun h => ⟨(fj h).1, (fj h).2.1, Nat.lt_of_lt_of_le (fj h).2.2 hb.size⟩), (fun h => ⟨(fj2 h).1, (fj2 h).2.1, Nat.lt_of_lt_of_le (fj2 h).2.2 hb.size⟩), (hne), (fun h i => (z1 h i).below hb), (fun h i => (z2 h i).below hb), (fun h => (c1 h).below hb), (fun h => (c2 h).below hb), (d1), (d2)⟩
      · refine StepOf.plain rfl ?_
        go_light
        intro listed a w1 hI h0 ha K hK
        obtain ⟨p0, p1, p2, p3, p4, p5, p6, p7, p8, p9, p10, p11, p12, p13, p14, x0, x1, x2, x3, x4, x5, x6, x7, x8, x9, x10, x11, x14, j, j2, rfl, rfl, f0, f1, f2, f3, f4, f5, f6, f7, f8, f9, f14, hB, fj, fj2, hne, z1, z2, c1, c2, d1, d2⟩ := hI
        have e0 : p6 = false := h0
        have g5 : p5 = true := by revert ha; cases p5 <;> simp [Region.binds]
        clear ha h0
        subst e0 g5
        obtain rfl := f5 rfl
        go_simp
        refine hK.out _ _ ?_
        exact ⟨p0, p1, p2, p3, p4, true, true, p7, p8, p9, p10, p11, p12, p13, p14, _, _, _, _, _, _, _, _, _, _, _, _, _, j, j2, rfl, rfl, (f0), (f1), (f2), (f3), (f4), (fun _ => rfl), (fun _ => rfl), (f7), (f8), (f9), (f14), (hB), (fj), (fj2), (hne), (z1), (z2), (c1), (c2), (d1), (d2)⟩
      · refine StepOf.plain rfl ?_
        go_light
        intro listed a w1 hI h0 ha K hK
        obtain ⟨p0, p1, p2, p3, p4, p5, p6, p7, p8, p9, p10, p11, p12, p13, p14, x0, x1, x2, x3, x4, x5, x6, x7, x8, x9, x10, x11, x14, j, j2, rfl, rfl, f0, f1, f2, f3, f4, f5, f6, f7, f8, f9, f14, hB, fj, fj2, hne, z1, z2, c1, c2, d1, d2⟩ := hI
        have e0 : p7 = false := h0
        have g6 : p6 = true := by revert ha; cases p6 <;> simp [Region.binds]
        clear ha h0
        subst e0 g6
        obtain rfl := f6 rfl
        go_simp
        refine hK.out _ _ ?_
        exact ⟨p0, p1, p2, p3, p4, p5, true, true, p8, p9, p10, p11, p12, p13, p14, _, _, _, _, _, _, _, _, _, _, _, _, _, j, j2, rfl, rfl, (f0), (f1), (f2), (f3), (f4), (f5), (fun _ => rfl), (fun _ => rfl), (f8), (f9), (f14), (hB), (fj), (fj2), (hne), (z1), (z2), (c1), (c2), (d1), (d2)⟩
      · refine StepOf.plain rfl ?_
        go_light
        intro listed a w1 hI h0 ha K hK
        obtain ⟨p0, p1, p2, p3, p4, p5, p6, p7, p8, p9, p10, p11, p12, p13, p14, x0, x1, x2, x3, x4, x5, x6, x7, x8, x9, x10, x11, x14, j, j2, rfl, rfl, f0, f1, f2, f3, f4, f5, f6, f7, f8, f9, f14, hB, fj, fj2, hne, z1, z2, c1, c2, d1, d2⟩ := hI
        have e0 : p8 = false := h0
        have g6 : p6 = true := by revert ha; cases p6 <;> simp [Region.binds]
        clear ha h0
        subst e0 g6
        obtain rfl := f6 rfl
        go_simp
        refine hK.out _ _ ?_
        exact ⟨p0, p1, p2, p3, p4, p5, true, p7, true, p9, p10, p11, p12, p13, p14, _, _, _, _, _, _, _, _, _, _, _, _, _, j, j2, rfl, rfl, (f0), (f1), (f2), (f3), (f4), (f5), (fun _ => rfl), (f7), (fun _ => rfl), (f9), (f14), (hB), (fj), (fj2), (hne), (z1), (z2), (c1), (c2), (d1), (d2)⟩
      · refine StepOf.plain rfl ?_
        go_light
        intro listed a w1 hI h0 ha K hK
        obtain ⟨p0, p1, p2, p3, p4, p5, p6, p7, p8, p9, p10, p11, p12, p13, p14, x0, x1, x2, x3, x4, x5, x6, x7, x8, x9, x10, x11, x14, j, j2, rfl, rfl, f0, f1, f2, f3, f4, f5, f6, f7, f8, f9, f14, hB, fj, fj2, hne, z1, z2, c1, c2, d1, d2⟩ := hI
        have e0 : p9 = false := h0
        have g6 : p6 = true := by revert ha; cases p6 <;> simp [Region.binds]
        clear ha h0
        subst e0 g6
        obtain rfl := f6 rfl
        go_simp
        refine hK.out _ _ ?_
        exact ⟨p0, p1, p2, p3, p4, p5, true, p7, p8, true, p10, p11, p12, p13, p14, _, _, _, _, _, _, _, _, _, _, _, _, _, j, j2, rfl, rfl, (f0), (f1), (f2), (f3), (f4), (f5), (fun _ => rfl), (f7), (f8), (fun _ => rfl), (f14), (hB), (fj), (fj2), (hne), (z1), (z2), (c1), (c2), (d1), (d2)⟩
      · refine StepOf.plain rfl ?_
        go_light
        intro listed a w1 hI h0 ha K hK
        obtain ⟨p0, p1, p2, p3, p4, p5, p6, p7, p8, p9, p10, p11, p12, p13, p14, x0, x1, x2, x3, x4, x5, x6, x7, x8, x9, x10, x11, x14, j, j2, rfl, rfl, f0, f1, f2, f3, f4, f5, f6, f7, f8, f9, f14, hB, fj, fj2, hne, z1, z2, c1, c2, d1, d2⟩ := hI
        have e0 : p10 = false := h0
        clear ha h0
        subst e0
        go_simp
        refine hK.out _ _ ?_
        exact ⟨p0, p1, p2, p3, p4, p5, p6, p7, p8, p9, true, p11, p12, p13, p14, _, _, _, _, _, _, _, _, _, _, _, _, _, w1.heap.size, j2, rfl, rfl, (f0), (f1), (f2), (f3), (f4), (f5), (f6), (f7), (f8), (f9), (f14), (hB.alloc hB.size _), (fun _ => ⟨rfl, hB.size, by simp⟩), (fun h => ⟨(fj2 h).1, (fj2 h).2.1, by have := (fj2 h).2.2; simp; omega⟩), (fun _ h => by have := (fj2 h).2.2; omega), (fun _ _ => Blk.new _ _ _), (fun h i => (z2 h i).alloc _), (fun h => absurd (d1 h) (by simp)), (fun h => (c2 h).alloc _), (fun _ => rfl), (d2)⟩
      · refine StepOf.plain rfl ?_
        go_light
        intro listed a w1 hI h0 ha K hK
        obtain ⟨p0, p1, p2, p3, p4, p5, p6, p7, p8, p9, p10, p11, p12, p13, p14, x0, x1, x2, x3, x4, x5, x6, x7, x8, x9, x10, x11, x14, j, j2, rfl, rfl, f0, f1, f2, f3, f4, f5, f6, f7, f8, f9, f14, hB, fj, fj2, hne, z1, z2, c1, c2, d1, d2⟩ := hI
        have e0 : p11 = false := h0
        clear ha h0
        subst e0
        go_simp
        refine hK.out _ _ ?_
        exact ⟨p0, p1, p2, p3, p4, p5, p6, p7, p8, p9, p10, true, p12, p13, p14, _, _, _, _, _, _, _, _, _, _, _, _, _, j, w1.heap.size, rfl, rfl, (f0), (f1), (f2), (f3), (f4), (f5), (f6), (f7), (f8), (f9), (f14), (hB.alloc hB.size _), (fun h => ⟨(fj h).1, (fj h).2.1, by have := (fj h).2.2; simp; omega⟩), (fun _ => ⟨rfl, hB.size, by simp⟩), (fun h _ => by have := (fj h).2.2; omega), (fun h i => (z1 h i).alloc _), (fun _ _ => Blk.new _ _ _), (fun h => (c1 h).alloc _), (fun h => absurd (d2 h) (by simp)), (d1), (fun _ => rfl)⟩
      · refine StepOf.plain rfl ?_
        go_light
        intro listed a w1 hI h0 ha K hK
        obtain ⟨p0, p1, p2, p3, p4, p5, p6, p7, p8, p9, p10, p11, p12, p13, p14, x0, x1, x2, x3, x4, x5, x6, x7, x8, x9, x10, x11, x14, j, j2, rfl, rfl, f0, f1, f2, f3, f4, f5, f6, f7, f8, f9, f14, hB, fj, fj2, hne, z1, z2, c1, c2, d1, d2⟩ := hI
        have e0 : p12 = false := h0
        have g10 : p10 = true := by revert ha; cases p10 <;> simp [Region.binds]
        have g7 : p7 = true := by revert ha; cases p7 <;> simp [Region.binds]
        have g11 : p11 = true := by revert ha; cases p11 <;> simp [Region.binds]
        have g5 : p5 = true := by revert ha; cases p5 <;> simp [Region.binds]
        clear ha h0
        subst e0 g10 g7 g11 g5
        obtain ⟨rfl, m10, n10⟩ := fj rfl
        obtain rfl := f7 rfl
        obtain ⟨rfl, m11, n11⟩ := fj2 rfl
        obtain rfl := f5 rfl
        have hz := z1 rfl rfl
        clear z1
        have q0 := hz.cell 0; have q1 := hz.cell 1; have q2 := hz.frozen 0; have q3 := hz.frozen 1
        simp only [List.getElem?_toArray, List.getElem?_cons_zero, List.getElem?_cons_succ] at q0 q1
        have hjj := hne rfl rfl
        go_simp
        refine hK.out _ _ ?_
        exact ⟨p0, p1, p2, p3, p4, true, p6, true, p8, p9, true, true, true, p13, p14, _, _, _, _, _, _, _, _, _, _, _, _, _, j, j2, rfl, rfl, (f0), (f1), (f2), (f3), (f4), (fun _ => rfl), (f6), (fun _ => rfl), (f8), (f9), (f14), ((hB.setCell m10 _).setCell m10 _), (fun _ => ⟨rfl, m10, by simpa only [World.size_setCell] using n10⟩), (fun _ => ⟨rfl, m11, by simpa only [World.size_setCell] using n11⟩), (hne), (fun _ h => absurd h (by simp)), (fun h i => ((z2 h i).far (Ne.symm hjj) _).far (Ne.symm hjj) _), (fun _ => (hz.set_ 0 (.int .i64 xl)).set_ 1 (.int .i64 xh)), (fun h => ((c2 h).far (Ne.symm hjj) _).far (Ne.symm hjj) _), (fun _ => rfl), (d2)⟩
      · refine StepOf.plain rfl ?_
        go_light
        intro listed a w1 hI h0 ha K hK
        obtain ⟨p0, p1, p2, p3, p4, p5, p6, p7, p8, p9, p10, p11, p12, p13, p14, x0, x1, x2, x3, x4, x5, x6, x7, x8, x9, x10, x11, x14, j, j2, rfl, rfl, f0, f1, f2, f3, f4, f5, f6, f7, f8, f9, f14, hB, fj, fj2, hne, z1, z2, c1, c2, d1, d2⟩ := hI
        have e0 : p13 = false := h0
        have g11 : p11 = true := by revert ha; cases p11 <;> simp [Region.binds]
        have g8 : p8 = true := by revert ha; cases p8 <;> simp [Region.binds]
        have g10 : p10 = true := by revert ha; cases p10 <;> simp [Region.binds]
        have g12 : p12 = true := by revert ha; cases p12 <;> simp [Region.binds]
        clear ha h0
        subst e0 g11 g8 g10 g12
        obtain ⟨rfl, m11, n11⟩ := fj2 rfl
        obtain rfl := f8 rfl
        obtain ⟨rfl, m10, n10⟩ := fj rfl
        have hz := z2 rfl rfl
        clear z2
        have q0 := hz.cell 0; have q1 := hz.cell 1; have q2 := hz.frozen 0; have q3 := hz.frozen 1
        simp only [List.getElem?_toArray, List.getElem?_cons_zero, List.getElem?_cons_succ] at q0 q1
        have hjj := hne rfl rfl
        go_simp
        refine hK.out _ _ ?_
        exact ⟨p0, p1, p2, p3, p4, p5, p6, p7, true, p9, true, true, true, true, p14, _, _, _, _, _, _, _, _, _, _, _, _, _, j, j2, rfl, rfl, (f0), (f1), (f2), (f3), (f4), (f5), (f6), (f7), (fun _ => rfl), (f9), (f14), ((hB.setCell m11 _).setCell m11 _), (fun _ => ⟨rfl, m10, by simpa only [World.size_setCell] using n10⟩), (fun _ => ⟨rfl, m11, by simpa only [World.size_setCell] using n11⟩), (hne), (fun _ h => absurd h (by simp)), (fun _ h => absurd h (by simp)), (fun h => ((c1 h).far hjj _).far hjj _), (fun _ => (hz.set_ 0 (.int .i64 yl)).set_ 1 (.int .i64 yh)), (d1), (fun _ => rfl)⟩
      · refine StepOf.plain rfl ?_
        go_light
        intro listed a w1 hI h0 ha K hK
        obtain ⟨p0, p1, p2, p3, p4, p5, p6, p7, p8, p9, p10, p11, p12, p13, p14, x0, x1, x2, x3, x4, x5, x6, x7, x8, x9, x10, x11, x14, j, j2, rfl, rfl, f0, f1, f2, f3, f4, f5, f6, f7, f8, f9, f14, hB, fj, fj2, hne, z1, z2, c1, c2, d1, d2⟩ := hI
        have e0 : p14 = false := h0
        have g9 : p9 = true := by revert ha; cases p9 <;> simp [Region.binds]
        have g10 : p10 = true := by revert ha; cases p10 <;> simp [Region.binds]
        have g11 : p11 = true := by revert ha; cases p11 <;> simp [Region.binds]
        have g12 : p12 = true := by revert ha; cases p12 <;> simp [Region.binds]
        have g13 : p13 = true := by revert ha; cases p13 <;> simp [Region.binds]
        clear ha h0
        subst e0 g9 g10 g11 g12 g13
        obtain rfl := f9 rfl
        obtain ⟨rfl, m10, n10⟩ := fj rfl
        obtain ⟨rfl, m11, n11⟩ := fj2 rfl
        go_simp
        refine hK.out _ _ ?_
        exact ⟨p0, p1, p2, p3, p4, p5, p6, p7, p8, true, true, true, true, true, true, _, _, _, _, _, _, _, _, _, _, _, _, _, j, j2, rfl, rfl, (f0), (f1), (f2), (f3), (f4), (f5), (f6), (f7), (f8), (fun _ => rfl), (fun _ => rfl), (hB), (fun _ => ⟨rfl, m10, n10⟩), (fun _ => ⟨rfl, m11, n11⟩), (hne), (z1), (z2), (c1), (c2), (d1), (d2)⟩
    case hend =>
      intro listed a w1 hall hI
      obtain ⟨p0, p1, p2, p3, p4, p5, p6, p7, p8, p9, p10, p11, p12, p13, p14, x0, x1, x2, x3, x4, x5, x6, x7, x8, x9, x10, x11, x14, j, j2, rfl, rfl, f0, f1, f2, f3, f4, f5, f6, f7, f8, f9, f14, hB, fj, fj2, hne, z1, z2, c1, c2, d1, d2⟩ := hI
      have g0 : p0 = true := hall 0
      have g1 : p1 = true := hall 1
      have g2 : p2 = true := hall 2
      have g3 : p3 = true := hall 3
      have g4 : p4 = true := hall 4
      have g5 : p5 = true := hall 5
      have g6 : p6 = true := hall 6
      have g7 : p7 = true := hall 7
      have g8 : p8 = true := hall 8
      have g9 : p9 = true := hall 9
      have g10 : p10 = true := hall 10
      have g11 : p11 = true := hall 11
      have g12 : p12 = true := hall 12
      have g13 : p13 = true := hall 13
      have g14 : p14 = true := hall 14
      subst g0 g1 g2 g3 g4 g5 g6 g7 g8 g9 g10 g11 g12 g13 g14
      obtain rfl := f0 rfl
      obtain rfl := f1 rfl
      obtain rfl := f2 rfl
      obtain rfl := f3 rfl
      obtain rfl := f4 rfl
      obtain rfl := f5 rfl
      obtain rfl := f6 rfl
      obtain rfl := f7 rfl
      obtain rfl := f8 rfl
      obtain rfl := f9 rfl
      obtain rfl := f14 rfl
      obtain ⟨rfl, m10, n10⟩ := fj rfl
      obtain ⟨rfl, m11, n11⟩ := fj2 rfl
      have k1 := c1 rfl
      have k2 := c2 rfl
      clear hall z1 z2 c1 c2 d1 d2 fj fj2 hne f0 f1 f2 f3 f4 f5 f6 f7 f8 f9 f14
      go_wp2_with fail
      go_meet
      exact ⟨_, rfl, _, _, rfl, rfl, rfl, k1, k2, hB⟩
  case rest =>
  obtain ⟨W1, rfl, g, g2, rfl, rfl, rfl, hg, hg2, hB1⟩ := hcut
  have hB0' := below_on hB0 hB1
  replace c1a := (hB1.cell (p := ⟨w.heap.size, 0, none⟩) (blk c1a)).trans c1a
  replace c1b := (hB1.cell (p := ⟨w.heap.size, 1, none⟩) (blk c1b)).trans c1b
  replace c2a := (hB1.cell (p := ⟨w.heap.size + 1, 0, none⟩) (blk c2a)).trans c2a
  replace c2b := (hB1.cell (p := ⟨w.heap.size + 1, 1, none⟩) (blk c2b)).trans c2b
  clear hB0 hB1
  have hB0 := hB0'
  clear hB0'
  go_upto_region 2 with fail
  go_cut [10, 11, 12] (fun s7 s8 sb wx => ∃ W, W = wx ∧ ∃ j j2 : Nat, s7 = .pointer (some ⟨j, 0, none⟩) ∧ s8 = .pointer (some ⟨j2, 0, none⟩) ∧ sb = .bool ok ∧ Blk wx j 27 #[.int .i64 xl, .int .i64 xh] ∧ Blk wx j2 27 #[.int .i64 yl, .int .i64 yh] ∧ Below W1.heap.size W1 wx)
  case first =>
    refine region_inv (fun listed a w' => ∃ (p0 p1 p2 p3 p4 p5 p6 p7 p8 p9 p10 p11 p12 p13 p14 : Bool) (x0 x1 x2 x3 x4 x5 x6 x7 x8 x9 x10 x11 x14 : Value) (j j2 : Nat), listed = #[p0, p1, p2, p3, p4, p5, p6, p7, p8, p9, p10, p11, p12, p13, p14] ∧ a = ⟨#[.int .i64 a0, .agg #[.int .i64 a1, .int .i64 b1], .agg #[.int .i64 a2, .int .i64 b2], undef, .pointer (some ⟨w.heap.size, 0, none⟩), .pointer (some ⟨w.heap.size + 1, 0, none⟩), .bool false, .pointer (some ⟨g, 0, none⟩), .pointer (some ⟨g2, 0, none⟩), .bool ok, x10, x11, x14, u13, u14, u15, u16, u17, u18, u19, u20, u21, u22, x6, x0, x1, x2, x3, x4, x5, x7, x8, x9, u33, u34, u35, u36, u37, u38, u39, u40, u41, u42, u43, u44, u45, u46, u47], []⟩ ∧ (p0 = true → x0 = .int .i64 a0) ∧ (p1 = true → x1 = .agg #[.int .i64 a1, .int .i64 b1]) ∧ (p2 = true → x2 = .agg #[.int .i64 a1, .int .i64 b1]) ∧ (p3 = true → x3 = .agg #[.int .i64 a2, .int .i64 b2]) ∧ (p4 = true → x4 = .agg #[.int .i64 a2, .int .i64 b2]) ∧ (p5 = true → x5 = .tuple #[.agg #[.int .i64 xl, .int .i64 xh], .agg #[.int .i64 yl, .int .i64 yh], .bool ok]) ∧ (p6 = true → x6 = .tuple #[.agg #[.int .i64 xl, .int .i64 xh], .agg #[.int .i64 yl, .int .i64 yh], .bool ok]) ∧ (p7 = true → x7 = .agg #[.int .i64 xl, .int .i64 xh]) ∧ (p8 = true → x8 = .agg #[.int .i64 yl, .int .i64 yh]) ∧ (p9 = true → x9 = .bool ok) ∧ (p14 = true → x14 = .bool ok) ∧ Below W1.heap.size W1 w' ∧ (p10 = true → x10 = .pointer (some ⟨j, 0, none⟩) ∧ W1.heap.size ≤ j ∧ j < w'.heap.size) ∧ (p11 = true → x11 = .pointer (some ⟨j2, 0, none⟩) ∧ W1.heap.size ≤ j2 ∧ j2 < w'.heap.size) ∧ (p10 = true → p11 = true → j ≠ j2) ∧ (p10 = true → p12 = false → Blk w' j 27 #[.int .i64 0, .int .i64 0]) ∧ (p11 = true → p13 = false → Blk w' j2 27 #[.int .i64 0, .int .i64 0]) ∧ (p12 = true → Blk w' j 27 #[.int .i64 xl, .int .i64 xh]) ∧ (p13 = true → Blk w' j2 27 #[.int .i64 yl, .int .i64 yh]) ∧ (p12 = true → p10 = true) ∧ (p13 = true → p11 = true)) (by kernel_rfl) (by kernel_rfl) ?hz ?h0 ?hs ?hend
    case hz =>
      rintro listed a w1 ⟨p0, p1, p2, p3, p4, p5, p6, p7, p8, p9, p10, p11, p12, p13, p14, x0, x1, x2, x3, x4, x5, x6, x7, x8, x9, x10, x11, x14, j, j2, rfl, -⟩
      rfl
    case h0 => exact ⟨false, false, false, false, false, false, false, false, false, false, false, false, false, false, false, _, _, _, _, _, _, _, _, _, _, _, _, _, 0, 0, rfl, rfl, (fun h => by cases h), (fun h => by cases h), (fun h => by cases h), (fun h => by cases h), (fun h => by cases h), (fun h => by cases h), (fun h => by cases h), (fun h => by cases h), (fun h => by cases h), (fun h => by cases h), (fun h => by cases h), (Below.refl _ _).drew, (fun h => by cases h), (fun h => by cases h), (fun h => by cases h), (fun h => by cases h), (fun h => by cases h), (fun h => by cases h), (fun h => by cases h), (fun h => by cases h), (fun h => by cases h)⟩
    case hs =>
      refine AllSteps.cons ?_ <| AllSteps.cons ?_ <| AllSteps.cons ?_ <| AllSteps.cons ?_ <| AllSteps.cons ?_ <| AllSteps.cons ?_ <| AllSteps.cons ?_ <| AllSteps.cons ?_ <| AllSteps.cons ?_ <| AllSteps.cons ?_ <| AllSteps.cons ?_ <| AllSteps.cons ?_ <| AllSteps.cons ?_ <| AllSteps.cons ?_ <| AllSteps.cons ?_ <| AllSteps.nil
      · refine StepOf.plain rfl ?_
        go_light
        intro listed a w1 hI h0 ha K hK
        obtain ⟨p0, p1, p2, p3, p4, p5, p6, p7, p8, p9, p10, p11, p12, p13, p14, x0, x1, x2, x3, x4, x5, x6, x7, x8, x9, x10, x11, x14, j, j2, rfl, rfl, f0, f1, f2, f3, f4, f5, f6, f7, f8, f9, f14, hB, fj, fj2, hne, z1, z2, c1, c2, d1, d2⟩ := hI
        have e0 : p0 = false := h0
        clear ha h0
        subst e0
        go_simp
        refine hK.out _ _ ?_
        exact ⟨true, p1, p2, p3, p4, p5, p6, p7, p8, p9, p10, p11, p12, p13, p14, _, _, _, _, _, _, _, _, _, _, _, _, _, j, j2, rfl, rfl, (fun _ => rfl), (f1), (f2), (f3), (f4), (f5), (f6), (f7), (f8), (f9), (f14), (hB), (fj), (fj2), (hne), (z1), (z2), (c1), (c2), (d1), (d2)⟩
      · refine StepOf.plain rfl ?_
        go_light
        intro listed a w1 hI h0 ha K hK
        obtain ⟨p0, p1, p2, p3, p4, p5, p6, p7, p8, p9, p10, p11, p12, p13, p14, x0, x1, x2, x3, x4, x5, x6, x7, x8, x9, x10, x11, x14, j, j2, rfl, rfl, f0, f1, f2, f3, f4, f5, f6, f7, f8, f9, f14, hB, fj, fj2, hne, z1, z2, c1, c2, d1, d2⟩ := hI
        have e0 : p1 = false := h0
        clear ha h0
        subst e0
        have q0 := (hB.cell (p := ⟨w.heap.size, 0, none⟩) (blk c1a)).trans c1a
        have q1 := (hB.cell (p := ⟨w.heap.size, 1, none⟩) (blk c1b)).trans c1b
        go_simp
        refine hK.out _ _ ?_
        exact ⟨p0, true, p2, p3, p4, p5, p6, p7, p8, p9, p10, p11, p12, p13, p14, _, _, _, _, _, _, _, _, _, _, _, _, _, j, j2, rfl, rfl, (f0), (fun _ => rfl), (f2), (f3), (f4), (f5), (f6), (f7), (f8), (f9), (f14), (hB), (fj), (fj2), (hne), (z1), (z2), (c1), (c2), (d1), (d2)⟩
      · refine StepOf.plain rfl ?_
        go_light
        intro listed a w1 hI h0 ha K hK
        obtain ⟨p0, p1, p2, p3, p4, p5, p6, p7, p8, p9, p10, p11, p12, p13, p14, x0, x1, x2, x3, x4, x5, x6, x7, x8, x9, x10, x11, x14, j, j2, rfl, rfl, f0, f1, f2, f3, f4, f5, f6, f7, f8, f9, f14, hB, fj, fj2, hne, z1, z2, c1, c2, d1, d2⟩ := hI
        have e0 : p2 = false := h0
        have g1 : p1 = true := by revert ha; cases p1 <;> simp [Region.binds]
        clear ha h0
        subst e0 g1
        obtain rfl := f1 rfl
        go_simp
        refine (toItv_l _ _ _).mono ?_; rintro e w2 ⟨rfl, hb⟩
        go_wp2_with fail
        refine hK.out _ _ ?_
        exact ⟨p0, true, true, p3, p4, p5, p6, p7, p8, p9, p10, p11, p12, p13, p14, _, _, _, _, _, _, _, _, _, _, _, _, _, j, j2, rfl, rfl, (f0), (fun _ => rfl), (fun _ => rfl), (f3), (f4), (f5), (f6), (f7), (f8), (f9), (f14), (below_on hB hb), (fun h => ⟨(fj h).1, (fj h).2.1, Nat.lt_of_lt_of_le (fj h).2.2 hb.size⟩), (fun h => ⟨(fj2 h).1, (fj2 h).2.1, Nat.lt_of_lt_of_le (fj2 h).2.2 hb.size⟩), (hne), (fun h i => (z1 h i).below hb), (fun h i => (z2 h i).below hb), (fun h => (c1 h).below hb), (fun h => (c2 h).below hb), (d1), (d2)⟩
      · refine StepOf.plain rfl ?_
        go_light
        intro listed a w1 hI h0 ha K hK
        obtain ⟨p0, p1, p2, p3, p4, p5, p6, p7, p8, p9, p10, p11, p12, p13, p14, x0, x1, x2, x3, x4, x5, x6, x7, x8, x9, x10, x11, x14, j, j2, rfl, rfl, f0, f1, f2, f3, f4, f5, f6, f7, f8, f9, f14, hB, fj, fj2, hne, z1, z2, c1, c2, d1, d2⟩ := hI
        have e0 : p3 = false := h0
        clear ha h0
        subst e0
        have q0 := (hB.cell (p := ⟨w.heap.size + 1, 0, none⟩) (blk c2a)).trans c2a
        have q1 := (hB.cell (p := ⟨w.heap.size + 1, 1, none⟩) (blk c2b)).trans c2b
        go_simp
        refine hK.out _ _ ?_
        exact ⟨p0, p1, p2, true, p4, p5, p6, p7, p8, p9, p10, p11, p12, p13, p14, _, _, _, _, _, _, _, _, _, _, _, _, _, j, j2, rfl, rfl, (f0), (f1), (f2), (fun _ => rfl), (f4), (f5), (f6), (f7), (f8), (f9), (f14), (hB), (fj), (fj2), (hne), (z1), (z2), (c1), (c2), (d1), (d2)⟩
      · refine StepOf.plain rfl ?_
        go_light
        intro listed a w1 hI h0 ha K hK
        obtain ⟨p0, p1, p2, p3, p4, p5, p6, p7, p8, p9, p10, p11, p12, p13, p14, x0, x1, x2, x3, x4, x5, x6, x7, x8, x9, x10, x11, x14, j, j2, rfl, rfl, f0, f1, f2, f3, f4, f5, f6, f7, f8, f9, f14, hB, fj, fj2, hne, z1, z2, c1, c2, d1, d2⟩ := hI
        have e0 : p4 = false := h0
        have g3 : p3 = true := by revert ha; cases p3 <;> simp [Region.binds]
        have g2 : p2 = true := by revert ha; cases p2 <;> simp [Region.binds]
        clear ha h0
        subst e0 g3 g2
        obtain rfl := f3 rfl
        obtain rfl := f2 rfl
        go_simp
        refine (toItv_l _ _ _).mono ?_; rintro e w2 ⟨rfl, hb⟩
        go_wp2_with fail
        refine hK.out _ _ ?_
        exact ⟨p0, p1, true, true, true, p5, p6, p7, p8, p9, p10, p11, p12, p13, p14, _, _, _, _, _, _, _, _, _, _, _, _, _, j, j2, rfl, rfl, (f0), (f1), (fun _ => rfl), (fun _ => rfl), (fun _ => rfl), (f5), (f6), (f7), (f8), (f9), (f14), (below_on hB hb), (fun h => ⟨(fj h).1, (fj h).2.1, Nat.lt_of_lt_of_le (fj h).2.2 hb.size⟩), (fun h => ⟨(fj2 h).1, (fj2 h).2.1, Nat.lt_of_lt_of_le (fj2 h).2.2 hb.size⟩), (hne), (fun h i => (z1 h i).below hb), (fun h i => (z2 h i).below hb), (fun h => (c1 h).below hb), (fun h => (c2 h).below hb), (d1), (d2)⟩
      · refine StepOf.plain rfl ?_
        go_light
        intro listed a w1 hI h0 ha K hK
        obtain ⟨p0, p1, p2, p3, p4, p5, p6, p7, p8, p9, p10, p11, p12, p13, p14, x0, x1, x2, x3, x4, x5, x6, x7, x8, x9, x10, x11, x14, j, j2, rfl, rfl, f0, f1, f2, f3, f4, f5, f6, f7, f8, f9, f14, hB, fj, fj2, hne, z1, z2, c1, c2, d1, d2⟩ := hI
        have e0 : p5 = false := h0
        have g0 : p0 = true := by revert ha; cases p0 <;> simp [Region.binds]
        have g2 : p2 = true := by revert ha; cases p2 <;> simp [Region.binds]
        have g4 : p4 = true := by revert ha; cases p4 <;> simp [Region.binds]
        clear ha h0
        subst e0 g0 g2 g4
        obtain rfl := f0 rfl
        obtain rfl := f2 rfl
        obtain rfl := f4 rfl
        go_simp
        refine (rel_at Hx.out _).mono ?_; rintro e w2 ⟨rfl, hb⟩
        go_wp2_with fail
        refine hK.out _ _ ?_
        exact ⟨true, p1, true, p3, true, true, p6, p7, p8, p9, p10, p11, p12, p13, p14, _, _, _, _, _, _, _, _, _, _, _, _, _, j, j2, rfl, rfl, (fun _ => rfl), (f1), (fun _ => rfl), (f3), (fun _ => rfl), (fun _ => rfl), (f6), (f7), (f8), (f9), (f14), (below_on hB hb), (fun h => ⟨(fj h).1, (fj h).2.1, Nat.lt_of_lt_of_le (fj h).2.2 hb.size⟩), (fun h => ⟨(fj2 h).1, (fj2 h).2.1, Nat.lt_of_lt_of_le (fj2 h).2.2 hb.size⟩), (hne), (fun h i => (z1 h i).below hb), (fun h i => (z2 h i).below hb), (fun h => (c1 h).below hb), (fun h => (c2 h).below hb), (d1), (d2)⟩
      · refine StepOf.plain rfl ?_
        go_light
        intro listed a w1 hI h0 ha K hK
        obtain ⟨p0, p1, p2, p3, p4, p5, p6, p7, p8, p9, p10, p11, p12, p13, p14, x0, x1, x2, x3, x4, x5, x6, x7, x8, x9, x10, x11, x14, j, j2, rfl, rfl, f0, f1, f2, f3, f4, f5, f6, f7, f8, f9, f14, hB, fj, fj2, hne, z1, z2, c1, c2, d1, d2⟩ := hI
        have e0 : p6 = false := h0
        have g5 : p5 = true := by revert ha; cases p5 <;> simp [Region.binds]
        clear ha h0
        subst e0 g5
        obtain rfl := f5 rfl
        go_simp
        refine hK.out _ _ ?_
        exact ⟨p0, p1, p2, p3, p4, true, true, p7, p8, p9, p10, p11, p12, p13, p14, _, _, _, _, _, _, _, _, _, _, _, _, _, j, j2, rfl, rfl, (f0), (f1), (f2), (f3), (f4), (fun _ => rfl), (fun _ => rfl), (f7), (f8), (f9), (f14), (hB), (fj), (fj2), (hne), (z1), (z2), (c1), (c2), (d1), (d2)⟩
      · refine StepOf.plain rfl ?_
        go_light
        intro listed a w1 hI h0 ha K hK
        obtain ⟨p0, p1, p2, p3, p4, p5, p6, p7, p8, p9, p10, p11, p12, p13, p14, x0, x1, x2, x3, x4, x5, x6, x7, x8, x9, x10, x11, x14, j, j2, rfl, rfl, f0, f1, f2, f3, f4, f5, f6, f7, f8, f9, f14, hB, fj, fj2, hne, z1, z2, c1, c2, d1, d2⟩ := hI
        have e0 : p7 = false := h0
        have g6 : p6 = true := by revert ha; cases p6 <;> simp [Region.binds]
        clear ha h0
        subst e0 g6
        obtain rfl := f6 rfl
        go_simp
        refine hK.out _ _ ?_
        exact ⟨p0, p1, p2, p3, p4, p5, true, true, p8, p9, p10, p11, p12, p13, p14, _, _, _, _, _, _, _, _, _, _, _, _, _, j, j2, rfl, rfl, (f0), (f1), (f2), (f3), (f4), (f5), (fun _ => rfl), (fun _ => rfl), (f8), (f9), (f14), (hB), (fj), (fj2), (hne), (z1), (z2), (c1), (c2), (d1), (d2)⟩
      · refine StepOf.plain rfl ?_
        go_light
        intro listed a w1 hI h0 ha K hK
        obtain ⟨p0, p1, p2, p3, p4, p5, p6, p7, p8, p9, p10, p11, p12, p13, p14, x0, x1, x2, x3, x4, x5, x6, x7, x8, x9, x10, x11, x14, j, j2, rfl, rfl, f0, f1, f2, f3, f4, f5, f6, f7, f8, f9, f14, hB, fj, fj2, hne, z1, z2, c1, c2, d1, d2⟩ := hI
        have e0 : p8 = false := h0
        have g6 : p6 = true := by revert ha; cases p6 <;> simp [Region.binds]
        clear ha h0
        subst e0 g6
        obtain rfl := f6 rfl
        go_simp
        refine hK.out _ _ ?_
        exact ⟨p0, p1, p2, p3, p4, p5, true, p7, true, p9, p10, p11, p12, p13, p14, _, _, _, _, _, _, _, _, _, _, _, _, _, j, j2, rfl, rfl, (f0), (f1), (f2), (f3), (f4), (f5), (fun _ => rfl), (f7), (fun _ => rfl), (f9), (f14), (hB), (fj), (fj2), (hne), (z1), (z2), (c1), (c2), (d1), (d2)⟩
      · refine StepOf.plain rfl ?_
        go_light
        intro listed a w1 hI h0 ha K hK
        obtain ⟨p0, p1, p2, p3, p4, p5, p6, p7, p8, p9, p10, p11, p12, p13, p14, x0, x1, x2, x3, x4, x5, x6, x7, x8, x9, x10, x11, x14, j, j2, rfl, rfl, f0, f1, f2, f3, f4, f5, f6, f7, f8, f9, f14, hB, fj, fj2, hne, z1, z2, c1, c2, d1, d2⟩ := hI
        have e0 : p9 = false := h0
        have g6 : p6 = true := by revert ha; cases p6 <;> simp [Region.binds]
        clear ha h0
        subst e0 g6
        obtain rfl := f6 rfl
        go_simp
        refine hK.out _ _ ?_
        exact ⟨p0, p1, p2, p3, p4, p5, true, p7, p8, true, p10, p11, p12, p13, p14, _, _, _, _, _, _, _, _, _, _, _, _, _, j, j2, rfl, rfl, (f0), (f1), (f2), (f3), (f4), (f5), (fun _ => rfl), (f7), (f8), (fun _ => rfl), (f14), (hB), (fj), (fj2), (hne), (z1), (z2), (c1), (c2), (d1), (d2)⟩
      · refine StepOf.plain rfl ?_
        go_light
        intro listed a w1 hI h0 ha K hK
        obtain ⟨p0, p1, p2, p3, p4, p5, p6, p7, p8, p9, p10, p11, p12, p13, p14, x0, x1, x2, x3, x4, x5, x6, x7, x8, x9, x10, x11, x14, j, j2, rfl, rfl, f0, f1, f2, f3, f4, f5, f6, f7, f8, f9, f14, hB, fj, fj2, hne, z1, z2, c1, c2, d1, d2⟩ := hI
        have e0 : p10 = false := h0
        clear ha h0
        subst e0
        go_simp
        refine hK.out _ _ ?_
        exact ⟨p0, p1, p2, p3, p4, p5, p6, p7, p8, p9, true, p11, p12, p13, p14, _, _, _, _, _, _, _, _, _, _, _, _, _, w1.heap.size, j2, rfl, rfl, (f0), (f1), (f2), (f3), (f4), (f5), (f6), (f7), (f8), (f9), (f14), (hB.alloc hB.size _), (fun _ => ⟨rfl, hB.size, by simp⟩), (fun h => ⟨(fj2 h).1, (fj2 h).2.1, by have := (fj2 h).2.2; simp; omega⟩), (fun _ h => by have := (fj2 h).2.2; omega), (fun _ _ => Blk.new _ _ _), (fun h i => (z2 h i).alloc _), (fun h => absurd (d1 h) (by simp)), (fun h => (c2 h).alloc _), (fun _ => rfl), (d2)⟩
      · refine StepOf.plain rfl ?_
        go_light
        intro listed a w1 hI h0 ha K hK
        obtain ⟨p0, p1, p2, p3, p4, p5, p6, p7, p8, p9, p10, p11, p12, p13, p14, x0, x1, x2, x3, x4, x5, x6, x7, x8, x9, x10, x11, x14, j, j2, rfl, rfl, f0, f1, f2, f3, f4, f5, f6, f7, f8, f9, f14, hB, fj, fj2, hne, z1, z2, c1, c2, d1, d2⟩ := hI
        have e0 : p11 = false := h0
        clear ha h0
        subst e0
        go_simp
        refine hK.out _ _ ?_
        exact ⟨p0, p1, p2, p3, p4, p5, p6, p7, p8, p9, p10, true, p12, p13, p14, _, _, _, _, _, _, _, _, _, _, _, _, _, j, w1.heap.size, rfl, rfl, (f0), (f1), (f2), (f3), (f4), (f5), (f6), (f7), (f8), (f9), (f14), (hB.alloc hB.size _), (fun h => ⟨(fj h).1, (fj h).2.1, by have := (fj h).2.2; simp; omega⟩), (fun _ => ⟨rfl, hB.size, by simp⟩), (fun h _ => by have := (fj h).2.2; omega), (fun h i => (z1 h i).alloc _), (fun _ _ => Blk.new _ _ _), (fun h => (c1 h).alloc _), (fun h => absurd (d2 h) (by simp)), (d1), (fun _ => rfl)⟩
      · refine StepOf.plain rfl ?_
        go_light
        intro listed a w1 hI h0 ha K hK
        obtain ⟨p0, p1, p2, p3, p4, p5, p6, p7, p8, p9, p10, p11, p12, p13, p14, x0, x1, x2, x3, x4, x5, x6, x7, x8, x9, x10, x11, x14, j, j2, rfl, rfl, f0, f1, f2, f3, f4, f5, f6, f7, f8, f9, f14, hB, fj, fj2, hne, z1, z2, c1, c2, d1, d2⟩ := hI
        have e0 : p12 = false := h0
        have g10 : p10 = true := by revert ha; cases p10 <;> simp [Region.binds]
        have g7 : p7 = true := by revert ha; cases p7 <;> simp [Region.binds]
        have g11 : p11 = true := by revert ha; cases p11 <;> simp [Region.binds]
        have g5 : p5 = true := by revert ha; cases p5 <;> simp [Region.binds]
        clear ha h0
        subst e0 g10 g7 g11 g5
        obtain ⟨rfl, m10, n10⟩ := fj rfl
        obtain rfl := f7 rfl
        obtain ⟨rfl, m11, n11⟩ := fj2 rfl
        obtain rfl := f5 rfl
        have hz := z1 rfl rfl
        clear z1
        have q0 := hz.cell 0; have q1 := hz.cell 1; have q2 := hz.frozen 0; have q3 := hz.frozen 1
        simp only [List.getElem?_toArray, List.getElem?_cons_zero, List.getElem?_cons_succ] at q0 q1
        have hjj := hne rfl rfl
        go_simp
        refine hK.out _ _ ?_
        exact ⟨p0, p1, p2, p3, p4, true, p6, true, p8, p9, true, true, true, p13, p14, _, _, _, _, _, _, _, _, _, _, _, _, _, j, j2, rfl, rfl, (f0), (f1), (f2), (f3), (f4), (fun _ => rfl), (f6), (fun _ => rfl), (f8), (f9), (f14), ((hB.setCell m10 _).setCell m10 _), (fun _ => ⟨rfl, m10, by simpa only [World.size_setCell] using n10⟩), (fun _ => ⟨rfl, m11, by simpa only [World.size_setCell] using n11⟩), (hne), (fun _ h => absurd h (by simp)), (fun h i => ((z2 h i).far (Ne.symm hjj) _).far (Ne.symm hjj) _), (fun _ => (hz.set_ 0 (.int .i64 xl)).set_ 1 (.int .i64 xh)), (fun h => ((c2 h).far (Ne.symm hjj) _).far (Ne.symm hjj) _), (fun _ => rfl), (d2)⟩
      · refine StepOf.plain rfl ?_
        go_light
        intro listed a w1 hI h0 ha K hK
        obtain ⟨p0, p1, p2, p3, p4, p5, p6, p7, p8, p9, p10, p11, p12, p13, p14, x0, x1, x2, x3, x4, x5, x6, x7, x8, x9, x10, x11, x14, j, j2, rfl, rfl, f0, f1, f2, f3, f4, f5, f6, f7, f8, f9, f14, hB, fj, fj2, hne, z1, z2, c1, c2, d1, d2⟩ := hI
        have e0 : p13 = false := h0
        have g11 : p11 = true := by revert ha; cases p11 <;> simp [Region.binds]
        have g8 : p8 = true := by revert ha; cases p8 <;> simp [Region.binds]
        have g10 : p10 = true := by revert ha; cases p10 <;> simp [Region.binds]
        have g12 : p12 = true := by revert ha; cases p12 <;> simp [Region.binds]
        clear ha h0
        subst e0 g11 g8 g10 g12
        obtain ⟨rfl, m11, n11⟩ := fj2 rfl
        obtain rfl := f8 rfl
        obtain ⟨rfl, m10, n10⟩ := fj rfl
        have hz := z2 rfl rfl
        clear z2
        have q0 := hz.cell 0; have q1 := hz.cell 1; have q2 := hz.frozen 0; have q3 := hz.frozen 1
        simp only [List.getElem?_toArray, List.getElem?_cons_zero, List.getElem?_cons_succ] at q0 q1
        have hjj := hne rfl rfl
        go_simp
        refine hK.out _ _ ?_
        exact ⟨p0, p1, p2, p3, p4, p5, p6, p7, true, p9, true, true, true, true, p14, _, _, _, _, _, _, _, _, _, _, _, _, _, j, j2, rfl, rfl, (f0), (f1), (f2), (f3), (f4), (f5), (f6), (f7), (fun _ => rfl), (f9), (f14), ((hB.setCell m11 _).setCell m11 _), (fun _ => ⟨rfl, m10, by simpa only [World.size_setCell] using n10⟩), (fun _ => ⟨rfl, m11, by simpa only [World.size_setCell] using n11⟩), (hne), (fun _ h => absurd h (by simp)), (fun _ h => absurd h (by simp)), (fun h => ((c1 h).far hjj _).far hjj _), (fun _ => (hz.set_ 0 (.int .i64 yl)).set_ 1 (.int .i64 yh)), (d1), (fun _ => rfl)⟩
      · refine StepOf.plain rfl ?_
        go_light
        intro listed a w1 hI h0 ha K hK
        obtain ⟨p0, p1, p2, p3, p4, p5, p6, p7, p8, p9, p10, p11, p12, p13, p14, x0, x1, x2, x3, x4, x5, x6, x7, x8, x9, x10, x11, x14, j, j2, rfl, rfl, f0, f1, f2, f3, f4, f5, f6, f7, f8, f9, f14, hB, fj, fj2, hne, z1, z2, c1, c2, d1, d2⟩ := hI
        have e0 : p14 = false := h0
        have g9 : p9 = true := by revert ha; cases p9 <;> simp [Region.binds]
        have g10 : p10 = true := by revert ha; cases p10 <;> simp [Region.binds]
        have g11 : p11 = true := by revert ha; cases p11 <;> simp [Region.binds]
        have g12 : p12 = true := by revert ha; cases p12 <;> simp [Region.binds]
        have g13 : p13 = true := by revert ha; cases p13 <;> simp [Region.binds]
        clear ha h0
        subst e0 g9 g10 g11 g12 g13
        obtain rfl := f9 rfl
        obtain ⟨rfl, m10, n10⟩ := fj rfl
        obtain ⟨rfl, m11, n11⟩ := fj2 rfl
        go_simp
        refine hK.out _ _ ?_
        exact ⟨p0, p1, p2, p3, p4, p5, p6, p7, p8, true, true, true, true, true, true, _, _, _, _, _, _, _, _, _, _, _, _, _, j, j2, rfl, rfl, (f0), (f1), (f2), (f3), (f4), (f5), (f6), (f7), (f8), (fun _ => rfl), (fun _ => rfl), (hB), (fun _ => ⟨rfl, m10, n10⟩), (fun _ => ⟨rfl, m11, n11⟩), (hne), (z1), (z2), (c1), (c2), (d1), (d2)⟩
    case hend =>
      intro listed a w1 hall hI
      obtain ⟨p0, p1, p2, p3, p4, p5, p6, p7, p8, p9, p10, p11, p12, p13, p14, x0, x1, x2, x3, x4, x5, x6, x7, x8, x9, x10, x11, x14, j, j2, rfl, rfl, f0, f1, f2, f3, f4, f5, f6, f7, f8, f9, f14, hB, fj, fj2, hne, z1, z2, c1, c2, d1, d2⟩ := hI
      have g0 : p0 = true := hall 0
      have g1 : p1 = true := hall 1
      have g2 : p2 = true := hall 2
      have g3 : p3 = true := hall 3
      have g4 : p4 = true := hall 4
      have g5 : p5 = true := hall 5
      have g6 : p6 = true := hall 6
      have g7 : p7 = true := hall 7
      have g8 : p8 = true := hall 8
      have g9 : p9 = true := hall 9
      have g10 : p10 = true := hall 10
      have g11 : p11 = true := hall 11
      have g12 : p12 = true := hall 12
      have g13 : p13 = true := hall 13
      have g14 : p14 = true := hall 14
      subst g0 g1 g2 g3 g4 g5 g6 g7 g8 g9 g10 g11 g12 g13 g14
      obtain rfl := f0 rfl
      obtain rfl := f1 rfl
      obtain rfl := f2 rfl
      obtain rfl := f3 rfl
      obtain rfl := f4 rfl
      obtain rfl := f5 rfl
      obtain rfl := f6 rfl
      obtain rfl := f7 rfl
      obtain rfl := f8 rfl
      obtain rfl := f9 rfl
      obtain rfl := f14 rfl
      obtain ⟨rfl, m10, n10⟩ := fj rfl
      obtain ⟨rfl, m11, n11⟩ := fj2 rfl
      have k1 := c1 rfl
      have k2 := c2 rfl
      clear hall z1 z2 c1 c2 d1 d2 fj fj2 hne f0 f1 f2 f3 f4 f5 f6 f7 f8 f9 f14
      go_wp2_with fail
      go_meet
      exact ⟨_, rfl, _, _, rfl, rfl, rfl, k1, k2, hB⟩
  case rest =>
  obtain ⟨W2, rfl, j, j2, rfl, rfl, rfl, hj, hj2, hB2⟩ := hcut
  have kg := hg.below hB2
  have kg2 := hg2.below hB2
  have hB := below_on hB0 hB2
  have e0 := kg.cell 0
  have e1 := kg.cell 1
  have e2 := kg2.cell 0
  have e3 := kg2.cell 1
  have e4 := hj.cell 0
  have e5 := hj.cell 1
  have e6 := hj2.cell 0
  have e7 := hj2.cell 1
  simp only [List.getElem?_toArray, List.getElem?_cons_zero, List.getElem?_cons_succ] at e0 e1 e2 e3 e4 e5 e6 e7
  have l0 := hj2.lt
  have l1 := kg2.lt
  clear hg hg2 hj hj2 kg kg2 c1a c1b c2a c2b hB0 hB2
  go_wp2_with (go_at_call 12; refine (eqItv_l _ _ _ _ _).mono ?_; rintro e w' ⟨rfl, hb⟩; have hs0 := hb.size; have hB : Below w.heap.size w w' := below_on (by ((try go_split_ands); go_grown)) hb; have hz := hB.size; have hc := bcell hb; (try simp only [World.size_alloc, World.size_setCell, World.size_drew] at hs0); (first | have m0 := up_7 m0 (show _ ≤ w'.heap.size by omega) | have m0 := up_6 m0 (show _ ≤ w'.heap.size by omega) | have m0 := up_5 m0 (show _ ≤ w'.heap.size by omega) | have m0 := up_4 m0 (show _ ≤ w'.heap.size by omega) | have m0 := up_3 m0 (show _ ≤ w'.heap.size by omega) | have m0 := up_2 m0 (show _ ≤ w'.heap.size by omega) | have m0 := up_1 m0 (show _ ≤ w'.heap.size by omega) | skip); (first | have m1 := up_7 m1 (show _ ≤ w'.heap.size by omega) | have m1 := up_6 m1 (show _ ≤ w'.heap.size by omega) | have m1 := up_5 m1 (show _ ≤ w'.heap.size by omega) | have m1 := up_4 m1 (show _ ≤ w'.heap.size by omega) | have m1 := up_3 m1 (show _ ≤ w'.heap.size by omega) | have m1 := up_2 m1 (show _ ≤ w'.heap.size by omega) | have m1 := up_1 m1 (show _ ≤ w'.heap.size by omega) | skip); (first | have m2 := up_7 m2 (show _ ≤ w'.heap.size by omega) | have m2 := up_6 m2 (show _ ≤ w'.heap.size by omega) | have m2 := up_5 m2 (show _ ≤ w'.heap.size by omega) | have m2 := up_4 m2 (show _ ≤ w'.heap.size by omega) | have m2 := up_3 m2 (show _ ≤ w'.heap.size by omega) | have m2 := up_2 m2 (show _ ≤ w'.heap.size by omega) | have m2 := up_1 m2 (show _ ≤ w'.heap.size by omega) | skip); (first | have m3 := up_7 m3 (show _ ≤ w'.heap.size by omega) | have m3 := up_6 m3 (show _ ≤ w'.heap.size by omega) | have m3 := up_5 m3 (show _ ≤ w'.heap.size by omega) | have m3 := up_4 m3 (show _ ≤ w'.heap.size by omega) | have m3 := up_3 m3 (show _ ≤ w'.heap.size by omega) | have m3 := up_2 m3 (show _ ≤ w'.heap.size by omega) | have m3 := up_1 m3 (show _ ≤ w'.heap.size by omega) | skip); (first | have m4 := up_7 m4 (show _ ≤ w'.heap.size by omega) | have m4 := up_6 m4 (show _ ≤ w'.heap.size by omega) | have m4 := up_5 m4 (show _ ≤ w'.heap.size by omega) | have m4 := up_4 m4 (show _ ≤ w'.heap.size by omega) | have m4 := up_3 m4 (show _ ≤ w'.heap.size by omega) | have m4 := up_2 m4 (show _ ≤ w'.heap.size by omega) | have m4 := up_1 m4 (show _ ≤ w'.heap.size by omega) | skip); (first | have m5 := up_7 m5 (show _ ≤ w'.heap.size by omega) | have m5 := up_6 m5 (show _ ≤ w'.heap.size by omega) | have m5 := up_5 m5 (show _ ≤ w'.heap.size by omega) | have m5 := up_4 m5 (show _ ≤ w'.heap.size by omega) | have m5 := up_3 m5 (show _ ≤ w'.heap.size by omega) | have m5 := up_2 m5 (show _ ≤ w'.heap.size by omega) | have m5 := up_1 m5 (show _ ≤ w'.heap.size by omega) | skip); (first | (have mm := lt_7 hs0; (try have m5 := m4); (try have m4 := m3); (try have m3 := m2); (try have m2 := m1); (try have m1 := m0); have m0 := mm) | (have mm := lt_6 hs0; (try have m5 := m4); (try have m4 := m3); (try have m3 := m2); (try have m2 := m1); (try have m1 := m0); have m0 := mm) | (have mm := lt_5 hs0; (try have m5 := m4); (try have m4 := m3); (try have m3 := m2); (try have m2 := m1); (try have m1 := m0); have m0 := mm) | (have mm := lt_4 hs0; (try have m5 := m4); (try have m4 := m3); (try have m3 := m2); (try have m2 := m1); (try have m1 := m0); have m0 := mm) | (have mm := lt_3 hs0; (try have m5 := m4); (try have m4 := m3); (try have m3 := m2); (try have m2 := m1); (try have m1 := m0); have m0 := mm) | (have mm := lt_2 hs0; (try have m5 := m4); (try have m4 := m3); (try have m3 := m2); (try have m2 := m1); (try have m1 := m0); have m0 := mm) | (have mm := lt_1 hs0; (try have m5 := m4); (try have m4 := m3); (try have m3 := m2); (try have m2 := m1); (try have m1 := m0); have m0 := mm) | skip); clear hs0; clear hb)
  all_goals (go_ret; exact ⟨by simp_all, by ((try go_split_ands); go_grown)⟩)
/-! ### The row, off the walk -/
set_option maxRecDepth 100000 in
theorem lifted (os : Os) (started : os.Started) (H : Type) (enc : TypeId × Value → H) :
    ReturnsInHanded {} Try.checked os 4 .any (Rows.fnExactItvRelSpec.pre6 enc Try.prog Try.f4 Rows.fnExactItvRelRow.domain false) (Rows.fnExactItvRelSpec.post enc Try.prog Try.f4 false true false false) := by
  refine returnsInHanded_of_change (C := Try.checked) own started (by kernel_rfl) Try.func4
    (ChangeSpec.witness6 (enc := enc) (C := Try.checked) false ⟨#[], #[.int .i64 0, .agg #[.int .i64 0, .int .i64 0], .agg #[.int .i64 0, .int .i64 0]], []⟩ 8 (by kernel_rfl) (by kernel_rfl) (by kernel_rfl) (by kernel_rfl)) ?_
  intro W base args ds gs before hval0 hW hcnd _
  have hval : ∀ (j : Nat) t v, Try.f4.params[j]? = some t → args[j]? = some v → Value.okWide Try.prog W .any base t v := hval0
  have hW' := hW
  obtain ⟨p, q, hA0, hV, rfl, hfz, hnd⟩ := hW
  have hA : DataW.TrodAll enc Try.prog W 0 (fun _ => true) true Try.f4.params.toList args.toList ds p := hA0
  rw [Try.params4] at hA hval
  obtain ⟨v0, vs0, d0, ds0, p0, q0, hargs, rfl, rfl, h0, r0⟩ := trodAll_cons hA
  obtain ⟨v1, vs1, d1, ds1, p1, q1, rfl, rfl, rfl, h1, r1⟩ := trodAll_cons r0
  obtain ⟨v2, vs2, d2, ds2, p2, q2, rfl, rfl, rfl, h2, r2⟩ := trodAll_cons r1
  obtain ⟨rfl, rfl, rfl⟩ := trodAll_nil r2
  obtain rfl : args = #[v0, v1, v2] := by cases args; simp_all
  obtain ⟨rfl, rfl⟩ := trodVars_none hV
  have k0 := h0
  have lt0 : ∀ x ∈ p0, x.block < W.heap.size := by obtain ⟨m, hm⟩ := k0; exact DataW.trod_lt m _ _ _ hm
  obtain ⟨a0, rfl, rfl, rfl, w0⟩ := open_int Try.underlying3 (hval 0 3 v0 rfl rfl) h0
  have k1 := h1
  have lt1 : ∀ x ∈ p1, x.block < W.heap.size := by obtain ⟨m, hm⟩ := k1; exact DataW.trod_lt m _ _ _ hm
  obtain ⟨c1a, c1b, y1a, y1b, m1, rfl, rfl, rfl, hy1a, hy1b⟩ := Joins.open_agg2 Try.underlying26 (by kernel_rfl) (by kernel_rfl) (hval 1 26 v1 rfl rfl) h1
  obtain ⟨a1, e1a, rfl, wa1⟩ := DataW.trod_int Try.underlying3 hy1a
  obtain ⟨b1, e1b, rfl, wb1⟩ := DataW.trod_int Try.underlying3 hy1b
  simp at e1a e1b
  subst e1a e1b
  have k2 := h2
  have lt2 : ∀ x ∈ p2, x.block < W.heap.size := by obtain ⟨m, hm⟩ := k2; exact DataW.trod_lt m _ _ _ hm
  obtain ⟨c2a, c2b, y2a, y2b, m2, rfl, rfl, rfl, hy2a, hy2b⟩ := Joins.open_agg2 Try.underlying26 (by kernel_rfl) (by kernel_rfl) (hval 2 26 v2 rfl rfl) h2
  obtain ⟨a2, e2a, rfl, wa2⟩ := DataW.trod_int Try.underlying3 hy2a
  obtain ⟨b2, e2b, rfl, wb2⟩ := DataW.trod_int Try.underlying3 hy2b
  simp at e2a e2b
  subst e2a e2b
  clear hA0 hval0
  refine (walk a0 a1 b1 a2 b2 W w0 wa1 wb1 wa2 wb2).mono fun e W' ⟨he, bel⟩ => ?_
  subst he
  exact ⟨_, rfl, _, _, _, [], _, [], hW', trodAll_mk1 (shut_bool Try.underlying4 _), (trodAll_cons_mk (Below.trod laidOut (by kernel_rfl) (of_decide_eq_true (by kernel_rfl)) k0 bel lt0) (trodAll_cons_mk (Below.trod laidOut (by kernel_rfl) (of_decide_eq_true (by kernel_rfl)) k1 bel lt1) (trodAll_cons_mk (Below.trod laidOut (by kernel_rfl) (of_decide_eq_true (by kernel_rfl)) k2 bel lt2) trodAll_mk0))), rfl, bel.frame _, fun h => by cases h⟩

theorem over : Rows.fnExactItvRelRow.holds Try.pinned (OpenSpec.ofChange Rows.fnExactItvRelSpec) :=
  OpenClaim.holds_of_wide 4 Try.f4 rfl rfl rfl rfl rfl rfl rfl ⟨rfl, rfl, rfl, rfl, rfl⟩ rfl rfl rfl rfl rfl (by kernel_rfl) Try.func4 (by kernel_rfl)
    (of_decide_eq_true (by kernel_rfl)) (by unfold Func.isWrapper; rw [if_neg (of_decide_eq_false (by kernel_rfl))]; exact ⟨rfl, rfl⟩)
    (fun os started H enc _ => lifted os started H enc)

/-- The given statement. -/
theorem proved : Rows.FnExactItvRelSaid := over
#print axioms proved
end Go.Proofs.Ytjipjijlaganmaa.fnExactItvRel
