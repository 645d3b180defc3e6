/-
  FnExactAbsWide: for every input the law returns true, and its arguments read as before. No conditions. (Printed by wip/genabsjoin.py.)
-/
import Derived.Test.YtdpooiiacdfpkaaAm
import Derived.Test.YtdpooiiacdfpkaaAjW
import Derived.Test.YtdpooiiacdfpkaaAk3W
namespace Go.Proofs.Ytdpooiiacdfpkaa.fnExactAbsWide
set_option linter.unusedSimpArgs false
set_option linter.unusedVariables false
open Go.ChangeShapes Go.WideShapes Go.ChangeAt Go.RowKit
open Go.ChangeMaps (open_string shut_string)

theorem cset {W : World} {p a : Addr} {u : Value} (hn : a.block ≠ p.block) : (W.setCell p u).cell? a = W.cell? a := World.cell?_of_block (w := W) (Below.heap_setCell W p u a.block hn)
theorem keep_under {W W' : World} {a : Addr} {v : Value} {o o' : Obj} (h : (W.alloc o).cell? a = some v) (hl : a.block < W.heap.size) (hs : W'.heap.size = W.heap.size) (k : W'.cell? a = W.cell? a) : (W'.alloc o').cell? a = some v := by
  rw [World.cell?_alloc_lt _ _ _ hl] at h
  rw [World.cell?_alloc_lt _ _ _ (by omega), k, h]
theorem below_under {w W W' : World} {o o' : Obj} (h : Below w.heap.size w (W.alloc o)) (hl : w.heap.size ≤ W.heap.size) (k : Below w.heap.size W W') : Below w.heap.size w (W'.alloc o') := by
  have k0 : Below w.heap.size w W := ⟨h.os, h.tape, h.output, hl, fun i hi => by rw [← Below.heap_alloc W o i (by omega)]; exact h.block i hi⟩
  exact (k0.trans k).alloc (by have := k.size; omega) o'

theorem keep_realloc2 {W : World} {a : Addr} {v : Value} {o o' o2 : Obj} (h : ((W.alloc o).alloc o2).cell? a = some v) (hl : a.block < W.heap.size) : ((W.alloc o').alloc o2).cell? a = some v := by
  rw [World.cell?_alloc_lt _ _ _ (by rw [World.size_alloc]; omega), World.cell?_alloc_lt _ _ _ hl] at h ⊢; exact h
theorem below_realloc2 {w W : World} {o o' o2 : Obj} (h : Below w.heap.size w ((W.alloc o).alloc o2)) (hl : w.heap.size ≤ W.heap.size) : Below w.heap.size w ((W.alloc o').alloc o2) :=
  ⟨h.os, h.tape, h.output, by simp; omega, fun k hk => by
    rw [Below.heap_alloc _ _ _ (by rw [World.size_alloc]; omega), Below.heap_alloc _ _ _ (by omega), ← Below.heap_alloc W o _ (by omega), ← Below.heap_alloc (W.alloc o) o2 _ (by rw [World.size_alloc]; omega)]; exact h.block k hk⟩
theorem le_of_S2 {P Q : Prop} {n m k : Nat} (h : P ∧ Q ∧ n ≤ m) (h2 : m ≤ k) : n ≤ k := Nat.le_trans h.2.2 h2
theorem s2_mk {W0 w' : World} (h : Below W0.heap.size W0 w') : Below W0.heap.size W0 w' ∧ (∀ b o, b < W0.heap.size → w'.cell? ⟨b, o, none⟩ = W0.cell? ⟨b, o, none⟩) ∧ W0.heap.size ≤ w'.heap.size := ⟨h, fun b o hb => h.cell (p := ⟨b, o, none⟩) hb, h.size⟩


set_option maxRecDepth 100000 in
set_option maxHeartbeats 16000000 in
theorem walkE (on0 : Bool) (a0 : Option Addr) (len0 cap0 : Nat) (lo0 hi0 : Int) (z0 : List (Int × Int)) (on1 : Bool) (a1 : Option Addr) (len1 cap1 : Nat) (lo1 hi1 : Int) (z1 : List (Int × Int)) (w : World) (hz0 : RdI w a0 len0 z0) (hm0 : len0 ≤ maxLen) (hz1 : RdI w a1 len1 z1) (hm1 : len1 ≤ maxLen) (hL0 : len0 ≤ 1048576) (hl : (len0 : Int) + len1 ≤ 1048576) (hs : ∀ (W : World) (ga gb : Nat), RdI W (some ⟨ga, 0, none⟩) len0 z0 → RdI W (some ⟨gb, 0, none⟩) len1 z1 → Calls Try.prog 20 #[.agg #[.bool on0, .slice (some ⟨ga, 0, none⟩) len0 len0, .int .i64 lo0, .int .i64 hi0], .agg #[.bool on1, .slice (some ⟨gb, 0, none⟩) len1 len1, .int .i64 lo1, .int .i64 hi1]] W (EmptyR W)) (hi : ∀ (W : World) (ga gb : Nat), RdI W (some ⟨ga, 0, none⟩) len0 z0 → RdI W (some ⟨gb, 0, none⟩) len1 z1 → Calls Try.prog 21 #[.agg #[.bool on0, .slice (some ⟨ga, 0, none⟩) len0 len0, .int .i64 lo0, .int .i64 hi0], .agg #[.bool on1, .slice (some ⟨gb, 0, none⟩) len1 len1, .int .i64 lo1, .int .i64 hi1]] W (EmptyR W)) :
    Calls Try.prog 5 #[.agg #[.bool on0, .slice a0 len0 cap0, .int .i64 lo0, .int .i64 hi0], .agg #[.bool on1, .slice a1 len1 cap1, .int .i64 lo1, .int .i64 hi1]] w fun e w' => e = .returned (.bool true) ∧ Below w.heap.size w w' := by
  have HZ0 := Lib.hid hz0
  have HZ1 := Lib.hid hz1
  have HS := Lib.hid hs
  have HI := Lib.hid hi
  clear hz0 hz1 hs hi
  obtain ⟨n1, hn1, hp1⟩ : ∃ n1 : Int, n1 = 1048576 - len0 ∧ 0 ≤ n1 := ⟨_, rfl, by omega⟩
  have hq1 : ¬ n1 < 0 := by omega
  have hu1 : n1 ≤ 1048576 := by omega
  obtain ⟨n2, hn2, hp2⟩ : ∃ n2 : Int, n2 = n1 - len1 ∧ 0 ≤ n2 := ⟨_, rfl, by omega⟩
  have hq2 : ¬ n2 < 0 := by omega
  have hL1 : len1 ≤ 1048576 := by omega
  obtain ⟨k1, hk1, hr1⟩ : ∃ k1 : Int, 1 + 2 * (len0 : Int) = k1 ∧ 0 ≤ k1 := ⟨_, rfl, by omega⟩
  obtain ⟨k2, hk2, hr2⟩ : ∃ k2 : Int, k1 + 2 * (len1 : Int) = k2 ∧ 0 ≤ k2 := ⟨_, rfl, by omega⟩
  have hv1 : k1 ≤ 1000000000 := by omega
  have hq3 : ¬ k2 < 0 := by omega
  have HN1 := Lib.hid hn1
  have HN2 := Lib.hid hn2
  have HK1 := Lib.hid hk1
  have HK2 := Lib.hid hk2
  clear hn1 hn2 hk1 hk2
  go_enter Try.func5, Try.ntmps5
  go_upto_region 8 with (go_at_call 13; first | (have _hk := hS; refine (szAbs_ok _ _ _ _ _ _ n1 n2 HN2.out hp2 (by omega) _).mono ?_; rintro e W0 ⟨rfl, hb⟩; clear x0 x1 x2 x3 zx; clear y0 y1 y2 y3 zy; replace bA := (bA).below hb; replace bB := (bB).below hb; obtain ⟨x0, x1, x2, x3⟩ := bA.out; have zx := bA.lt; obtain ⟨y0, y1, y2, y3⟩ := bB.out; have zy := bB.lt; have hSx : Below w.heap.size w W0 := below_on (hS) hb; clear hS; have hS := hSx; clear hSx; clear hb) | (refine (szAbs_ok _ _ _ _ _ _ _ n1 HN1.out hp1 (by omega) _).mono ?_; rintro e w1 ⟨rfl, hb⟩; have bA : Box w1 w.heap.size (.bool on0) (.slice a0 len0 cap0) (.int .i64 lo0) (.int .i64 hi0) := Box.below ((Box.new_at rfl).alloc _) hb; have bB : Box w1 (w.heap.size + 1) (.bool on1) (.slice a1 len1 cap1) (.int .i64 lo1) (.int .i64 hi1) := Box.below (Box.new_at (by simp only [World.size_alloc])) hb; obtain ⟨x0, x1, x2, x3⟩ := bA.out; have zx := bA.lt; obtain ⟨y0, y1, y2, y3⟩ := bB.out; have zy := bB.lt; have hS : Below w.heap.size w w1 := below_on (((Below.refl w.heap.size w).alloc (Nat.le_refl _) _).alloc (by simp only [World.size_alloc]; omega) _) hb; clear hb))
  go_cut [6] from 24 to 28 (fun p6 wx => ∃ W, W = wx ∧ ∃ g6 : Nat, p6 = .pointer (some ⟨g6, 0, none⟩) ∧ wx.cell? ⟨g6, 0, none⟩ = some (.bool false) ∧ wx.cell? ⟨g6, 1, none⟩ = some (.slice none 0 0) ∧ wx.cell? ⟨g6, 2, none⟩ = some (.int .i64 0) ∧ wx.cell? ⟨g6, 3, none⟩ = some (.int .i64 0) ∧ Below W0.heap.size W0 wx)
  case first =>
    refine region_invA (fun A0 listed a w' => ∃ (l0 l1 l2 l3 l4 l5 l6 : Bool) (v0 v1 v2 v3 v4 v5 : Value) (ga gb g s cp : Nat), listed = #[l0, l1, l2, l3, l4, l5, l6] ∧ a = ⟨((((((A0.tmps.setIfInBounds 24 v0).setIfInBounds 25 v1).setIfInBounds 26 v2).setIfInBounds 27 v3).setIfInBounds 28 v4).setIfInBounds 6 v5), A0.defers⟩ ∧ Below W0.heap.size W0 w' ∧ (l0 = true → v0 = .agg #[.bool on0, .slice a0 len0 cap0, .int .i64 lo0, .int .i64 hi0]) ∧ (l1 = true → v1 = .agg #[.bool on0, .slice (some ⟨ga, 0, none⟩) len0 len0, .int .i64 lo0, .int .i64 hi0]) ∧ (l2 = true → v2 = .agg #[.bool on1, .slice a1 len1 cap1, .int .i64 lo1, .int .i64 hi1]) ∧ (l3 = true → v3 = .agg #[.bool on1, .slice (some ⟨gb, 0, none⟩) len1 len1, .int .i64 lo1, .int .i64 hi1]) ∧ (l4 = true → v4 = .agg #[.bool false, .slice none 0 0, .int .i64 0, .int .i64 0]) ∧ (l1 = true → l6 = false → OwnB w' ga len0 z0) ∧ (l3 = true → l6 = false → OwnB w' gb len1 z1) ∧ True ∧ (l5 = true → v5 = .pointer (some ⟨g, 0, none⟩) ∧ W0.heap.size ≤ g ∧ g < w'.heap.size) ∧ (l5 = true → l6 = false → Blk w' g 29 #[.bool false, .slice none 0 0, .int .i64 0, .int .i64 0]) ∧ (l6 = true → Blk w' g 29 #[.bool false, .slice none 0 0, .int .i64 0, .int .i64 0]) ∧ (l6 = true → l5 = true) ∧ True ∧ (l6 = true → l4 = true)) (by kernel_rfl) (by kernel_rfl) ?hz ?h0 ?hs ?hend
    case hz =>
      rintro listed a w1 ⟨l0, l1, l2, l3, l4, l5, l6, v0, v1, v2, v3, v4, v5, ga, gb, g, s, cp, rfl, -⟩
      rfl
    case h0 => exact ⟨false, false, false, false, false, false, false, undef, undef, undef, undef, undef, undef, 0, 0, 0, 0, 0, rfl, (by simp only [List.setIfInBounds_toArray, List.set_cons_zero, List.set_cons_succ]), (Below.refl _ _).drew, (fun h => by cases h), (fun h => by cases h), (fun h => by cases h), (fun h => by cases h), (fun h => by cases h), (fun h => by cases h), (fun h => by cases h), trivial, (fun h => by cases h), (fun h => by cases h), (fun h => by cases h), (fun h => by cases h), trivial, (fun h => by cases h)⟩
    case hs =>
      refine AllSteps.cons ?_ <| AllSteps.cons ?_ <| AllSteps.cons ?_ <| AllSteps.cons ?_ <| AllSteps.cons ?_ <| AllSteps.cons ?_ <| AllSteps.cons ?_ <| AllSteps.nil
      · refine StepOf.plain rfl ?_
        go_light
        intro listed a w1 hI h0 ha K hK
        obtain ⟨l0, l1, l2, l3, l4, l5, l6, v0, v1, v2, v3, v4, v5, ga, gb, g, s, cp, rfl, ha', hB, k0, k1, k2, k3, k4, o1, o3, o4, k5, z5, z6, d6, hne, d4⟩ := hI
        simp only [List.setIfInBounds_toArray, List.set_cons_zero, List.set_cons_succ] at ha'
        subst ha'
        have e0 : l0 = false := h0
        clear ha h0
        subst e0
        have q0 := (hB.cell (p := ⟨w.heap.size, 0, none⟩) (blk x0)).trans x0
        have q1 := (hB.cell (p := ⟨w.heap.size, 1, none⟩) (blk x1)).trans x1
        have q2 := (hB.cell (p := ⟨w.heap.size, 2, none⟩) (blk x2)).trans x2
        have q3 := (hB.cell (p := ⟨w.heap.size, 3, none⟩) (blk x3)).trans x3
        go_simp
        refine hK.out _ _ ?_
        exact ⟨true, l1, l2, l3, l4, l5, l6, (.agg #[.bool on0, .slice a0 len0 cap0, .int .i64 lo0, .int .i64 hi0]), v1, v2, v3, v4, v5, ga, gb, g, s, cp, rfl, (by simp only [List.setIfInBounds_toArray, List.set_cons_zero, List.set_cons_succ]), (hB), (fun _ => rfl), (k1), (k2), (k3), (k4), (o1), (o3), (trivial), (k5), (z5), (z6), (d6), (trivial), (d4)⟩
      · refine StepOf.plain rfl ?_
        go_light
        intro listed a w1 hI h0 ha K hK
        obtain ⟨l0, l1, l2, l3, l4, l5, l6, v0, v1, v2, v3, v4, v5, ga, gb, g, s, cp, rfl, ha', hB, k0, k1, k2, k3, k4, o1, o3, o4, k5, z5, z6, d6, hne, d4⟩ := hI
        simp only [List.setIfInBounds_toArray, List.set_cons_zero, List.set_cons_succ] at ha'
        subst ha'
        have e0 : l1 = false := h0
        have g0 : l0 = true := by revert ha; cases l0 <;> simp [Region.binds]
        clear ha h0
        subst e0 g0
        obtain rfl := k0 rfl
        go_simp
        refine (toAbs_o on0 a0 len0 cap0 lo0 hi0 z0 _ (HZ0.out.below (below_on hS hB)) hL0).mono ?_
        rintro e w2 ⟨gx, rfl, hgx, ox, hb⟩
        go_wp2_with fail
        refine hK.out _ _ ?_
        exact ⟨true, true, l2, l3, l4, l5, l6, (.agg #[.bool on0, .slice a0 len0 cap0, .int .i64 lo0, .int .i64 hi0]), (.agg #[.bool on0, .slice (some ⟨gx, 0, none⟩) len0 len0, .int .i64 lo0, .int .i64 hi0]), v2, v3, v4, v5, gx, gb, g, s, cp, rfl, (by simp only [List.setIfInBounds_toArray, List.set_cons_zero, List.set_cons_succ]), (below_on hB hb), (fun _ => rfl), (fun _ => rfl), (k2), (k3), (k4), (fun _ _ => ox), (fun h i => (o3 h i).below hb), (trivial), (fun h => ⟨(k5 h).1, (k5 h).2.1, Nat.lt_of_lt_of_le (k5 h).2.2 hb.size⟩), (fun h i => (z5 h i).below hb), (fun h => (z6 h).below hb), (d6), (trivial), (d4)⟩
      · refine StepOf.plain rfl ?_
        go_light
        intro listed a w1 hI h0 ha K hK
        obtain ⟨l0, l1, l2, l3, l4, l5, l6, v0, v1, v2, v3, v4, v5, ga, gb, g, s, cp, rfl, ha', hB, k0, k1, k2, k3, k4, o1, o3, o4, k5, z5, z6, d6, hne, d4⟩ := hI
        simp only [List.setIfInBounds_toArray, List.set_cons_zero, List.set_cons_succ] at ha'
        subst ha'
        have e0 : l2 = false := h0
        clear ha h0
        subst e0
        have q0 := (hB.cell (p := ⟨w.heap.size + 1, 0, none⟩) (blk y0)).trans y0
        have q1 := (hB.cell (p := ⟨w.heap.size + 1, 1, none⟩) (blk y1)).trans y1
        have q2 := (hB.cell (p := ⟨w.heap.size + 1, 2, none⟩) (blk y2)).trans y2
        have q3 := (hB.cell (p := ⟨w.heap.size + 1, 3, none⟩) (blk y3)).trans y3
        go_simp
        refine hK.out _ _ ?_
        exact ⟨l0, l1, true, l3, l4, l5, l6, v0, v1, (.agg #[.bool on1, .slice a1 len1 cap1, .int .i64 lo1, .int .i64 hi1]), v3, v4, v5, ga, gb, g, s, cp, rfl, (by simp only [List.setIfInBounds_toArray, List.set_cons_zero, List.set_cons_succ]), (hB), (k0), (k1), (fun _ => rfl), (k3), (k4), (o1), (o3), (trivial), (k5), (z5), (z6), (d6), (trivial), (d4)⟩
      · refine StepOf.plain rfl ?_
        go_light
        intro listed a w1 hI h0 ha K hK
        obtain ⟨l0, l1, l2, l3, l4, l5, l6, v0, v1, v2, v3, v4, v5, ga, gb, g, s, cp, rfl, ha', hB, k0, k1, k2, k3, k4, o1, o3, o4, k5, z5, z6, d6, hne, d4⟩ := hI
        simp only [List.setIfInBounds_toArray, List.set_cons_zero, List.set_cons_succ] at ha'
        subst ha'
        have e0 : l3 = false := h0
        have g2 : l2 = true := by revert ha; cases l2 <;> simp [Region.binds]
        clear ha h0
        subst e0 g2
        obtain rfl := k2 rfl
        go_simp
        refine (toAbs_o on1 a1 len1 cap1 lo1 hi1 z1 _ (HZ1.out.below (below_on hS hB)) hL1).mono ?_
        rintro e w2 ⟨gx, rfl, hgx, ox, hb⟩
        go_wp2_with fail
        refine hK.out _ _ ?_
        exact ⟨l0, l1, true, true, l4, l5, l6, v0, v1, (.agg #[.bool on1, .slice a1 len1 cap1, .int .i64 lo1, .int .i64 hi1]), (.agg #[.bool on1, .slice (some ⟨gx, 0, none⟩) len1 len1, .int .i64 lo1, .int .i64 hi1]), v4, v5, ga, gx, g, s, cp, rfl, (by simp only [List.setIfInBounds_toArray, List.set_cons_zero, List.set_cons_succ]), (below_on hB hb), (k0), (k1), (fun _ => rfl), (fun _ => rfl), (k4), (fun h i => (o1 h i).below hb), (fun _ _ => ox), (trivial), (fun h => ⟨(k5 h).1, (k5 h).2.1, Nat.lt_of_lt_of_le (k5 h).2.2 hb.size⟩), (fun h i => (z5 h i).below hb), (fun h => (z6 h).below hb), (d6), (trivial), (d4)⟩
      · refine StepOf.plain rfl ?_
        go_light
        intro listed a w1 hI h0 ha K hK
        obtain ⟨l0, l1, l2, l3, l4, l5, l6, v0, v1, v2, v3, v4, v5, ga, gb, g, s, cp, rfl, ha', hB, k0, k1, k2, k3, k4, o1, o3, o4, k5, z5, z6, d6, hne, d4⟩ := hI
        simp only [List.setIfInBounds_toArray, List.set_cons_zero, List.set_cons_succ] at ha'
        subst ha'
        have e0 : l4 = false := h0
        have g1 : l1 = true := by revert ha; cases l1 <;> simp [Region.binds]
        have g3 : l3 = true := by revert ha; cases l3 <;> simp [Region.binds]
        clear ha h0
        subst e0 g1 g3
        obtain rfl := k1 rfl
        obtain rfl := k3 rfl
        have l6f : l6 = false := by cases l6; rfl; exact absurd (d4 rfl) (by simp)
        subst l6f
        go_simp
        have P1 := o1 rfl rfl
        have P3 := o3 rfl rfl
        have P5 := fun h => z5 h rfl
        clear o1 o3 z5
        refine (HS.out _ ga gb P1.rd P3.rd).mono ?_
        rintro e w2 ⟨rfl, hb⟩
        go_wp2_with fail
        refine hK.out _ _ ?_
        exact ⟨l0, true, l2, true, true, l5, false, v0, (.agg #[.bool on0, .slice (some ⟨ga, 0, none⟩) len0 len0, .int .i64 lo0, .int .i64 hi0]), v2, (.agg #[.bool on1, .slice (some ⟨gb, 0, none⟩) len1 len1, .int .i64 lo1, .int .i64 hi1]), (.agg #[.bool false, .slice none 0 0, .int .i64 0, .int .i64 0]), v5, ga, gb, g, s, cp, rfl, (by simp only [List.setIfInBounds_toArray, List.set_cons_zero, List.set_cons_succ]), (below_on hB hb), (k0), (fun _ => rfl), (k2), (fun _ => rfl), (fun _ => rfl), (fun _ _ => P1.below hb), (fun _ _ => P3.below hb), (trivial), (fun h => ⟨(k5 h).1, (k5 h).2.1, Nat.lt_of_lt_of_le (k5 h).2.2 hb.size⟩), (fun h _ => (P5 h).below hb), (fun h => by cases h), (fun h => by cases h), (trivial), (fun h => by cases h)⟩
      · refine StepOf.plain rfl ?_
        go_light
        intro listed a w1 hI h0 ha K hK
        obtain ⟨l0, l1, l2, l3, l4, l5, l6, v0, v1, v2, v3, v4, v5, ga, gb, g, s, cp, rfl, ha', hB, k0, k1, k2, k3, k4, o1, o3, o4, k5, z5, z6, d6, hne, d4⟩ := hI
        simp only [List.setIfInBounds_toArray, List.set_cons_zero, List.set_cons_succ] at ha'
        subst ha'
        have e0 : l5 = false := h0
        clear ha h0
        subst e0
        have l6f : l6 = false := by cases l6; rfl; exact absurd (d6 rfl) (by simp)
        subst l6f
        go_simp
        refine hK.out _ _ ?_
        exact ⟨l0, l1, l2, l3, l4, true, false, v0, v1, v2, v3, v4, (.pointer (some ⟨w1.heap.size, 0, none⟩)), ga, gb, w1.heap.size, s, cp, rfl, (by simp only [List.setIfInBounds_toArray, List.set_cons_zero, List.set_cons_succ]), (hB.alloc hB.size _), (k0), (k1), (k2), (k3), (k4), (fun h i => (o1 h i).alloc _), (fun h i => (o3 h i).alloc _), (trivial), (fun _ => ⟨rfl, hB.size, by simp⟩), (fun _ _ => Blk.new _ _ _), (fun h => by cases h), (fun h => by cases h), (trivial), (fun h => by cases h)⟩
      · refine StepOf.plain rfl ?_
        go_light
        intro listed a w1 hI h0 ha K hK
        obtain ⟨l0, l1, l2, l3, l4, l5, l6, v0, v1, v2, v3, v4, v5, ga, gb, g, s, cp, rfl, ha', hB, k0, k1, k2, k3, k4, o1, o3, o4, k5, z5, z6, d6, hne, d4⟩ := hI
        simp only [List.setIfInBounds_toArray, List.set_cons_zero, List.set_cons_succ] at ha'
        subst ha'
        have e0 : l6 = false := h0
        have g4 : l4 = true := by revert ha; cases l4 <;> simp [Region.binds]
        have g5 : l5 = true := by revert ha; cases l5 <;> simp [Region.binds]
        clear ha h0
        subst e0 g4 g5
        obtain rfl := k4 rfl
        obtain ⟨rfl, m5, n5⟩ := k5 rfl
        have hz := z5 rfl rfl
        obtain ⟨q0, q1, q2, q3⟩ := hz.four
        obtain ⟨f0, f1, f2, f3⟩ := hz.free
        go_simp
        refine hK.out _ _ ?_
        exact ⟨l0, l1, l2, l3, true, true, true, v0, v1, v2, v3, (.agg #[.bool false, .slice none 0 0, .int .i64 0, .int .i64 0]), (.pointer (some ⟨g, 0, none⟩)), ga, gb, g, s, cp, rfl, (by simp only [List.setIfInBounds_toArray, List.set_cons_zero, List.set_cons_succ]), ((((hB.setCell m5 _).setCell m5 _).setCell m5 _).setCell m5 _), (k0), (k1), (k2), (k3), (fun _ => rfl), (fun _ h => by cases h), (fun _ h => by cases h), (trivial), (fun _ => ⟨rfl, m5, by simpa only [World.size_setCell] using n5⟩), (fun _ h => by cases h), (fun _ => (((hz.set_ 0 _).set_ 1 _).set_ 2 _).set_ 3 _), (fun _ => rfl), (trivial), (fun _ => rfl)⟩
    case hend =>
      intro listed a w1 hall hI
      obtain ⟨l0, l1, l2, l3, l4, l5, l6, v0, v1, v2, v3, v4, v5, ga, gb, g, s, cp, rfl, ha', hB, k0, k1, k2, k3, k4, o1, o3, o4, k5, z5, z6, d6, hne, d4⟩ := hI
      simp only [List.setIfInBounds_toArray, List.set_cons_zero, List.set_cons_succ] at ha'
      subst ha'
      have g0 : l0 = true := hall 0
      have g1 : l1 = true := hall 1
      have g2 : l2 = true := hall 2
      have g3 : l3 = true := hall 3
      have g4 : l4 = true := hall 4
      have g5 : l5 = true := hall 5
      have g6 : l6 = true := hall 6
      subst g0 g1 g2 g3 g4 g5 g6
      obtain rfl := k0 rfl
      obtain rfl := k1 rfl
      obtain rfl := k2 rfl
      obtain rfl := k3 rfl
      obtain rfl := k4 rfl
      obtain ⟨rfl, m5, n5⟩ := k5 rfl
      have kz := z6 rfl
      obtain ⟨q0, q1, q2, q3⟩ := kz.four
      clear hall z5 z6 o1 o3 o4 k0 k1 k2 k3 k4 k5 d6 hne d4 kz
      go_wp2_with fail
      go_meet
      exact ⟨_, rfl, _, rfl, q0, q1, q2, q3, hB⟩
  case rest =>
  obtain ⟨W1, rfl, g6, rfl, q0, q1, q2, q3, hb⟩ := hcut
  clear x0 x1 x2 x3 zx
  clear y0 y1 y2 y3 zy
  replace bA := (bA).below hb
  replace bB := (bB).below hb
  have b6 : Box W1 g6 (.bool false) (.slice none 0 0) (.int .i64 0) (.int .i64 0) := ⟨q0, q1, q2, q3⟩
  obtain ⟨x0, x1, x2, x3⟩ := bA.out
  have zx := bA.lt
  obtain ⟨y0, y1, y2, y3⟩ := bB.out
  have zy := bB.lt
  have i0 := b6.lt
  have i0' := bB.lt
  skip
  clear q0 q1 q2 q3
  have hSx : Below w.heap.size w W1 := below_on (hS) hb
  clear hS
  have hS := hSx
  clear hSx
  clear hb
  go_upto_region 14 with (first
    | (go_at_call 15; first | (have _hk := st1; refine (toAbs_o on1 a1 len1 cap1 lo1 hi1 z1 _ (HZ1.out.below (hS.alloc hS.size _)) hL1).mono ?_; rintro e w4 ⟨gb, rfl, hgb, o8, hb⟩; simp only [World.size_alloc] at hgb; have i5 : w3.heap.size < gb := (by omega); have i6 := o8.lt; clear x0 x1 x2 x3 zx; clear y0 y1 y2 y3 zy; replace bA := (bA.alloc _).below hb; replace bB := (bB.alloc _).below hb; replace b6 := (b6.alloc _).below hb; replace o7 := (o7.alloc _).below hb; have b7 : Box w4 w3.heap.size (.bool on0) (.slice (some ⟨ga, 0, none⟩) len0 len0) (.int .i64 lo0) (.int .i64 hi0) := Box.below (Box.new_at rfl) hb; obtain ⟨p0, p1, p2, p3⟩ := b7.out; have zp := b7.lt; have hSx : Below w.heap.size w w4 := below_on (hS.alloc hS.size _) hb; clear hS; have hS := hSx; clear hSx; clear hb hgb) | (refine (toAbs_o on0 a0 len0 cap0 lo0 hi0 z0 _ (HZ0.out.below hS) hL0).mono ?_; rintro e w3 ⟨ga, rfl, hga, o7, hb⟩; have i1 : g6 < ga := (by omega); have i3 : w.heap.size + 1 < ga := (by omega); have i4 := o7.lt; clear x0 x1 x2 x3 zx; clear y0 y1 y2 y3 zy; replace bA := (bA).below hb; replace bB := (bB).below hb; replace b6 := (b6).below hb; obtain ⟨x0, x1, x2, x3⟩ := bA.out; have zx := bA.lt; obtain ⟨y0, y1, y2, y3⟩ := bB.out; have zy := bB.lt; have hSx : Below w.heap.size w w3 := below_on (hS) hb; clear hS; have hS := hSx; clear hSx; clear hb hga; have st1 := True.intro))
    | (go_at_call 21; refine (HI.out _ ga gb (o7.alloc _).rd (o8.alloc _).rd).mono ?_; rintro e w5 ⟨rfl, hb⟩; clear p0 p1 p2 p3 zp; replace bA := (bA.alloc _).below hb; replace bB := (bB.alloc _).below hb; replace b6 := (b6.alloc _).below hb; replace o7 := (o7.alloc _).below hb; replace b7 := (b7.alloc _).below hb; replace o8 := (o8.alloc _).below hb; have b8 : Box w5 w4.heap.size (.bool on1) (.slice (some ⟨gb, 0, none⟩) len1 len1) (.int .i64 lo1) (.int .i64 hi1) := Box.below (Box.new_at rfl) hb; have hSx : Below w.heap.size w w5 := below_on (hS.alloc hS.size _) hb; clear hS; have hS := hSx; clear hSx; have i8 : w4.heap.size < w5.heap.size := b8.lt; obtain ⟨r0, r1, r2, r3⟩ := b6.out; have zr := b6.lt; clear hb)
    | (go_at_call 17; refine (eqAbs_l false none none 0 0 0 0 0 [] _ (rd_nil _) (rd_nil _) (by omega)).mono ?_; rintro e w6 ⟨rfl, hb⟩; clear r0 r1 r2 r3 zr; replace bA := (bA.alloc _).below hb; replace bB := (bB.alloc _).below hb; replace b6 := (b6.alloc _).below hb; replace o7 := (o7.alloc _).below hb; replace b7 := (b7.alloc _).below hb; replace o8 := (o8.alloc _).below hb; replace b8 := (b8.alloc _).below hb; have b9 : Box w6 w5.heap.size (.bool false) (.slice none 0 0) (.int .i64 0) (.int .i64 0) := Box.below (Box.new_at rfl) hb; have hSx : Below w.heap.size w w6 := below_on (hS.alloc hS.size _) hb; clear hS; have hS := hSx; clear hSx; obtain ⟨p0, p1, p2, p3⟩ := b7.out; have zp := b7.lt; obtain ⟨x0, x1, x2, x3⟩ := bA.out; have zx := bA.lt; clear hb))
  go_region_held3 (fun w' => w'.cell? ⟨w3.heap.size, 0, none⟩ = some (.bool on0) ∧ w'.cell? ⟨w3.heap.size, 1, none⟩ = some (.slice (some ⟨ga, 0, none⟩) len0 len0) ∧ w'.cell? ⟨w3.heap.size, 2, none⟩ = some (.int .i64 lo0) ∧ w'.cell? ⟨w3.heap.size, 3, none⟩ = some (.int .i64 hi0) ∧ w'.cell? ⟨w.heap.size, 0, none⟩ = some (.bool on0) ∧ w'.cell? ⟨w.heap.size, 1, none⟩ = some (.slice a0 len0 cap0) ∧ w'.cell? ⟨w.heap.size, 2, none⟩ = some (.int .i64 lo0) ∧ w'.cell? ⟨w.heap.size, 3, none⟩ = some (.int .i64 hi0)) (((try go_split_ands); (repeat' apply And.intro); all_goals (first | with_reducible assumption | ((with_reducible refine keep_alloc _ ?_); with_reducible assumption) | ((with_reducible refine below_alloc _ ?_); with_reducible assumption) | ((with_reducible refine keep_realloc (by assumption) ?_); (simp only []; omega)) | ((with_reducible refine below_realloc (by assumption) ?_); omega) | ((with_reducible refine keep_realloc (by assumption) ?_); (simp only [World.size_alloc]; omega)) | ((with_reducible refine below_realloc (by assumption) ?_); (simp only [World.size_alloc]; omega)) | ((with_reducible refine keep_realloc2 (by assumption) ?_); (simp only []; omega)) | ((with_reducible refine keep_realloc (by assumption) ?_); (simp only [World.size_setCell]; omega)) | ((with_reducible refine below_realloc (by assumption) ?_); (simp only [World.size_setCell]; omega)) | ((with_reducible refine keep_under (by assumption) (by simp only []; omega) (by simp [World.setCell]) ?_); first | exact cset (by simp only []; omega) | exact (cset (by simp only []; omega)).trans (cset (by simp only []; omega))) | ((with_reducible refine below_under (by assumption) (by omega) ?_); first | exact (Below.refl _ _).setCell (by simp only []; omega) _ | exact ((Below.refl _ _).setCell (by simp only []; omega) _).setCell (by simp only []; omega) _) | ((with_reducible refine below_realloc2 (by assumption) ?_); omega) | (with_reducible exact cell_later hb (by assumption)) | (with_reducible exact below_on (by assumption) hb) | ((repeat (with_reducible refine keep_set _ (by (simp only []; omega)) ?_)); with_reducible assumption) | ((repeat (with_reducible refine below_set _ (by (simp only []; omega)) ?_)); with_reducible assumption) | (simp; done) | (simp [go_sem]; done) | (simp [go_sem, *]; done) | go_grown))) (first | (go_at_call 15; refine (toAbs_o on0 a0 len0 cap0 lo0 hi0 z0 _ (HZ0.out.below hS.drew) hL0).mono ?_; rintro e w7 ⟨gx, rfl, hgx, ox, hb⟩; clear p0 p1 p2 p3 zp; clear x0 x1 x2 x3 zx; replace bA := (bA.drew).below hb; replace bB := (bB.drew).below hb; replace b6 := (b6.drew).below hb; replace o7 := (o7.drew).below hb; replace b7 := (b7.drew).below hb; replace o8 := (o8.drew).below hb; replace b8 := (b8.drew).below hb; replace b9 := (b9.drew).below hb; obtain ⟨p0, p1, p2, p3⟩ := b7.out; have zp := b7.lt; have hSx : Below w.heap.size w w7 := below_on (hS.drew) hb; clear hS; have hS := hSx; clear hSx) | (go_at_call 17; (try clear hb); refine (eqAbs_l on0 _ _ len0 _ _ lo0 hi0 z0 _ o7.rd ox.rd hL0).mono ?_; rintro e w8 ⟨rfl, hb⟩; clear p0 p1 p2 p3 zp; replace bA := (bA).below hb; replace bB := (bB).below hb; replace b6 := (b6).below hb; replace o7 := (o7).below hb; replace b7 := (b7).below hb; replace o8 := (o8).below hb; replace b8 := (b8).below hb; replace b9 := (b9).below hb; have hSx : Below w.heap.size w w8 := below_on (hS) hb; clear hS; have hS := hSx; clear hSx))
  clear hb ox hgx
  obtain ⟨p0, p1, p2, p3⟩ := b8.out
  have zp := b8.lt
  obtain ⟨y0, y1, y2, y3⟩ := bB.out
  have zy := bB.lt
  go_upto_region 16 with fail
  go_region_held3 (fun w' => w'.cell? ⟨w4.heap.size, 0, none⟩ = some (.bool on1) ∧ w'.cell? ⟨w4.heap.size, 1, none⟩ = some (.slice (some ⟨gb, 0, none⟩) len1 len1) ∧ w'.cell? ⟨w4.heap.size, 2, none⟩ = some (.int .i64 lo1) ∧ w'.cell? ⟨w4.heap.size, 3, none⟩ = some (.int .i64 hi1) ∧ w'.cell? ⟨w.heap.size + 1, 0, none⟩ = some (.bool on1) ∧ w'.cell? ⟨w.heap.size + 1, 1, none⟩ = some (.slice a1 len1 cap1) ∧ w'.cell? ⟨w.heap.size + 1, 2, none⟩ = some (.int .i64 lo1) ∧ w'.cell? ⟨w.heap.size + 1, 3, none⟩ = some (.int .i64 hi1)) (((try go_split_ands); (repeat' apply And.intro); all_goals (first | with_reducible assumption | ((with_reducible refine keep_alloc _ ?_); with_reducible assumption) | ((with_reducible refine below_alloc _ ?_); with_reducible assumption) | ((with_reducible refine keep_realloc (by assumption) ?_); (simp only []; omega)) | ((with_reducible refine below_realloc (by assumption) ?_); omega) | ((with_reducible refine keep_realloc (by assumption) ?_); (simp only [World.size_alloc]; omega)) | ((with_reducible refine below_realloc (by assumption) ?_); (simp only [World.size_alloc]; omega)) | ((with_reducible refine keep_realloc2 (by assumption) ?_); (simp only []; omega)) | ((with_reducible refine keep_realloc (by assumption) ?_); (simp only [World.size_setCell]; omega)) | ((with_reducible refine below_realloc (by assumption) ?_); (simp only [World.size_setCell]; omega)) | ((with_reducible refine keep_under (by assumption) (by simp only []; omega) (by simp [World.setCell]) ?_); first | exact cset (by simp only []; omega) | exact (cset (by simp only []; omega)).trans (cset (by simp only []; omega))) | ((with_reducible refine below_under (by assumption) (by omega) ?_); first | exact (Below.refl _ _).setCell (by simp only []; omega) _ | exact ((Below.refl _ _).setCell (by simp only []; omega) _).setCell (by simp only []; omega) _) | ((with_reducible refine below_realloc2 (by assumption) ?_); omega) | (with_reducible exact cell_later hb (by assumption)) | (with_reducible exact below_on (by assumption) hb) | ((repeat (with_reducible refine keep_set _ (by (simp only []; omega)) ?_)); with_reducible assumption) | ((repeat (with_reducible refine below_set _ (by (simp only []; omega)) ?_)); with_reducible assumption) | (simp; done) | (simp [go_sem]; done) | (simp [go_sem, *]; done) | go_grown))) (first | (go_at_call 15; refine (toAbs_o on1 a1 len1 cap1 lo1 hi1 z1 _ (HZ1.out.below hS.drew) hL1).mono ?_; rintro e w9 ⟨gx, rfl, hgx, ox, hb⟩; clear p0 p1 p2 p3 zp; clear y0 y1 y2 y3 zy; replace bA := (bA.drew).below hb; replace bB := (bB.drew).below hb; replace b6 := (b6.drew).below hb; replace o7 := (o7.drew).below hb; replace b7 := (b7.drew).below hb; replace o8 := (o8.drew).below hb; replace b8 := (b8.drew).below hb; replace b9 := (b9.drew).below hb; obtain ⟨p0, p1, p2, p3⟩ := b8.out; have zp := b8.lt; have hSx : Below w.heap.size w w9 := below_on (hS.drew) hb; clear hS; have hS := hSx; clear hSx) | (go_at_call 17; (try clear hb); refine (eqAbs_l on1 _ _ len1 _ _ lo1 hi1 z1 _ o8.rd ox.rd hL1).mono ?_; rintro e w10 ⟨rfl, hb⟩; clear p0 p1 p2 p3 zp; replace bA := (bA).below hb; replace bB := (bB).below hb; replace b6 := (b6).below hb; replace o7 := (o7).below hb; replace b7 := (b7).below hb; replace o8 := (o8).below hb; replace b8 := (b8).below hb; replace b9 := (b9).below hb; have hSx : Below w.heap.size w w10 := below_on (hS) hb; clear hS; have hS := hSx; clear hSx))
  clear hb ox hgx
  obtain ⟨p0, p1, p2, p3⟩ := b7.out
  have zp := b7.lt
  obtain ⟨r0, r1, r2, r3⟩ := b8.out
  have zr := b8.lt
  go_upto_region 31 with (first
    | (go_at_call 18; first | (have _hk := st3; refine (mark_nil false 0 0 1 (by omega) _).mono ?_; rintro e w14 ⟨rfl, hb⟩; clear p0 p1 p2 p3 zp; replace bA := (bA).below hb; replace bB := (bB).below hb; replace b6 := (b6).below hb; replace b9 := (b9).below hb; obtain ⟨p0, p1, p2, p3⟩ := b9.out; have zp := b9.lt; have hSx : Below w.heap.size w w14 := below_on (hS) hb; clear hS; have hS := hSx; clear hSx; clear hb) | (have _hk := st2; refine (mark_o on1 gb len1 len1 lo1 hi1 k1 k2 z1 _ o8 hL1 hr1 hv1 HK2.out).mono ?_; rintro e w12 ⟨rfl, o8', hb⟩; clear r0 r1 r2 r3 zr; replace bA := bA.but hb (by omega); replace bB := bB.but hb (by omega); replace b6 := b6.but hb (by omega); replace b9 := b9.but hb (by omega); obtain ⟨r0, r1, r2, r3⟩ := b6.out; have zr := b6.lt; obtain ⟨p0, p1, p2, p3⟩ := b9.out; have zp := b9.lt; have hSx : Below w.heap.size w w12 := But.to_below hb hS (by omega) hS.size; clear hS; have hS := hSx; clear hSx; clear hb o8 o8'; have st3 := True.intro) | (refine (mark_o on0 ga len0 len0 lo0 hi0 1 k1 z0 _ o7 hL0 (by omega) (by omega) HK1.out).mono ?_; rintro e w11 ⟨rfl, o7', hb⟩; clear p0 p1 p2 p3 zp; clear r0 r1 r2 r3 zr; replace bA := bA.but hb (by omega); replace bB := bB.but hb (by omega); replace b6 := b6.but hb (by omega); replace b8 := b8.but hb (by omega); replace b9 := b9.but hb (by omega); replace o8 := o8.but hb (by omega); obtain ⟨r0, r1, r2, r3⟩ := b8.out; have zr := b8.lt; have hSx : Below w.heap.size w w11 := But.to_below hb hS (by omega) hS.size; clear hS; have hS := hSx; clear hSx; clear hb o7 o7'; have st2 := True.intro))
    | (go_at_call 17; refine (eqAbs_l false none none 0 0 0 0 0 [] _ (rd_nil _) (rd_nil _) (by omega)).mono ?_; rintro e w13 ⟨rfl, hb⟩; clear p0 p1 p2 p3 zp; clear r0 r1 r2 r3 zr; replace bA := (bA).below hb; replace bB := (bB).below hb; replace b6 := (b6).below hb; replace b9 := (b9).below hb; obtain ⟨p0, p1, p2, p3⟩ := b9.out; have zp := b9.lt; have hSx : Below w.heap.size w w13 := below_on (hS) hb; clear hS; have hS := hSx; clear hSx; clear hb)
    | (go_at_call 19; refine (held_nil false 0 0 1 (by omega) _).mono ?_; rintro e W0' ⟨rfl, hb⟩; clear p0 p1 p2 p3 zp; replace bA := (bA).below hb; replace bB := (bB).below hb; replace b6 := (b6).below hb; replace b9 := (b9).below hb; obtain ⟨x0, x1, x2, x3⟩ := bA.out; have zx := bA.lt; obtain ⟨y0, y1, y2, y3⟩ := bB.out; have zy := bB.lt; have hSx : Below w.heap.size w W0' := below_on (hS) hb; clear hS; have hS := hSx; clear hSx; clear hb))
  obtain ⟨W0, hW0⟩ : ∃ W0, W0 = W0' := ⟨_, rfl⟩
  subst hW0
  go_cut [13] from 75 to 79 (fun p6 wx => ∃ W, W = wx ∧ ∃ g13 : Nat, p6 = .pointer (some ⟨g13, 0, none⟩) ∧ wx.cell? ⟨g13, 0, none⟩ = some (.bool false) ∧ wx.cell? ⟨g13, 1, none⟩ = some (.slice none 0 0) ∧ wx.cell? ⟨g13, 2, none⟩ = some (.int .i64 0) ∧ wx.cell? ⟨g13, 3, none⟩ = some (.int .i64 0) ∧ Below W0.heap.size W0 wx)
  case first =>
    refine region_invA (fun A0 listed a w' => ∃ (l0 l1 l2 l3 l4 l5 l6 : Bool) (v0 v1 v2 v3 v4 v5 : Value) (ga gb g s cp : Nat), listed = #[l0, l1, l2, l3, l4, l5, l6] ∧ a = ⟨((((((A0.tmps.setIfInBounds 75 v0).setIfInBounds 76 v1).setIfInBounds 77 v2).setIfInBounds 78 v3).setIfInBounds 79 v4).setIfInBounds 13 v5), A0.defers⟩ ∧ Below W0.heap.size W0 w' ∧ (l0 = true → v0 = .agg #[.bool on0, .slice a0 len0 cap0, .int .i64 lo0, .int .i64 hi0]) ∧ (l1 = true → v1 = .agg #[.bool on0, .slice (some ⟨ga, 0, none⟩) len0 len0, .int .i64 lo0, .int .i64 hi0]) ∧ (l2 = true → v2 = .agg #[.bool on1, .slice a1 len1 cap1, .int .i64 lo1, .int .i64 hi1]) ∧ (l3 = true → v3 = .agg #[.bool on1, .slice (some ⟨gb, 0, none⟩) len1 len1, .int .i64 lo1, .int .i64 hi1]) ∧ (l4 = true → v4 = .agg #[.bool false, .slice none 0 0, .int .i64 0, .int .i64 0]) ∧ (l1 = true → l6 = false → OwnB w' ga len0 z0) ∧ (l3 = true → l6 = false → OwnB w' gb len1 z1) ∧ True ∧ (l5 = true → v5 = .pointer (some ⟨g, 0, none⟩) ∧ W0.heap.size ≤ g ∧ g < w'.heap.size) ∧ (l5 = true → l6 = false → Blk w' g 29 #[.bool false, .slice none 0 0, .int .i64 0, .int .i64 0]) ∧ (l6 = true → Blk w' g 29 #[.bool false, .slice none 0 0, .int .i64 0, .int .i64 0]) ∧ (l6 = true → l5 = true) ∧ True ∧ (l6 = true → l4 = true)) (by kernel_rfl) (by kernel_rfl) ?hz ?h0 ?hs ?hend
    case hz =>
      rintro listed a w1 ⟨l0, l1, l2, l3, l4, l5, l6, v0, v1, v2, v3, v4, v5, ga, gb, g, s, cp, rfl, -⟩
      rfl
    case h0 => exact ⟨false, false, false, false, false, false, false, undef, undef, undef, undef, undef, undef, 0, 0, 0, 0, 0, rfl, (by simp only [List.setIfInBounds_toArray, List.set_cons_zero, List.set_cons_succ]), (Below.refl _ _).drew, (fun h => by cases h), (fun h => by cases h), (fun h => by cases h), (fun h => by cases h), (fun h => by cases h), (fun h => by cases h), (fun h => by cases h), trivial, (fun h => by cases h), (fun h => by cases h), (fun h => by cases h), (fun h => by cases h), trivial, (fun h => by cases h)⟩
    case hs =>
      refine AllSteps.cons ?_ <| AllSteps.cons ?_ <| AllSteps.cons ?_ <| AllSteps.cons ?_ <| AllSteps.cons ?_ <| AllSteps.cons ?_ <| AllSteps.cons ?_ <| AllSteps.nil
      · refine StepOf.plain rfl ?_
        go_light
        intro listed a w1 hI h0 ha K hK
        obtain ⟨l0, l1, l2, l3, l4, l5, l6, v0, v1, v2, v3, v4, v5, ga, gb, g, s, cp, rfl, ha', hB, k0, k1, k2, k3, k4, o1, o3, o4, k5, z5, z6, d6, hne, d4⟩ := hI
        simp only [List.setIfInBounds_toArray, List.set_cons_zero, List.set_cons_succ] at ha'
        subst ha'
        have e0 : l0 = false := h0
        clear ha h0
        subst e0
        have q0 := (hB.cell (p := ⟨w.heap.size, 0, none⟩) (blk x0)).trans x0
        have q1 := (hB.cell (p := ⟨w.heap.size, 1, none⟩) (blk x1)).trans x1
        have q2 := (hB.cell (p := ⟨w.heap.size, 2, none⟩) (blk x2)).trans x2
        have q3 := (hB.cell (p := ⟨w.heap.size, 3, none⟩) (blk x3)).trans x3
        go_simp
        refine hK.out _ _ ?_
        exact ⟨true, l1, l2, l3, l4, l5, l6, (.agg #[.bool on0, .slice a0 len0 cap0, .int .i64 lo0, .int .i64 hi0]), v1, v2, v3, v4, v5, ga, gb, g, s, cp, rfl, (by simp only [List.setIfInBounds_toArray, List.set_cons_zero, List.set_cons_succ]), (hB), (fun _ => rfl), (k1), (k2), (k3), (k4), (o1), (o3), (trivial), (k5), (z5), (z6), (d6), (trivial), (d4)⟩
      · refine StepOf.plain rfl ?_
        go_light
        intro listed a w1 hI h0 ha K hK
        obtain ⟨l0, l1, l2, l3, l4, l5, l6, v0, v1, v2, v3, v4, v5, ga, gb, g, s, cp, rfl, ha', hB, k0, k1, k2, k3, k4, o1, o3, o4, k5, z5, z6, d6, hne, d4⟩ := hI
        simp only [List.setIfInBounds_toArray, List.set_cons_zero, List.set_cons_succ] at ha'
        subst ha'
        have e0 : l1 = false := h0
        have g0 : l0 = true := by revert ha; cases l0 <;> simp [Region.binds]
        clear ha h0
        subst e0 g0
        obtain rfl := k0 rfl
        go_simp
        refine (toAbs_o on0 a0 len0 cap0 lo0 hi0 z0 _ (HZ0.out.below (below_on hS hB)) hL0).mono ?_
        rintro e w2 ⟨gx, rfl, hgx, ox, hb⟩
        go_wp2_with fail
        refine hK.out _ _ ?_
        exact ⟨true, true, l2, l3, l4, l5, l6, (.agg #[.bool on0, .slice a0 len0 cap0, .int .i64 lo0, .int .i64 hi0]), (.agg #[.bool on0, .slice (some ⟨gx, 0, none⟩) len0 len0, .int .i64 lo0, .int .i64 hi0]), v2, v3, v4, v5, gx, gb, g, s, cp, rfl, (by simp only [List.setIfInBounds_toArray, List.set_cons_zero, List.set_cons_succ]), (below_on hB hb), (fun _ => rfl), (fun _ => rfl), (k2), (k3), (k4), (fun _ _ => ox), (fun h i => (o3 h i).below hb), (trivial), (fun h => ⟨(k5 h).1, (k5 h).2.1, Nat.lt_of_lt_of_le (k5 h).2.2 hb.size⟩), (fun h i => (z5 h i).below hb), (fun h => (z6 h).below hb), (d6), (trivial), (d4)⟩
      · refine StepOf.plain rfl ?_
        go_light
        intro listed a w1 hI h0 ha K hK
        obtain ⟨l0, l1, l2, l3, l4, l5, l6, v0, v1, v2, v3, v4, v5, ga, gb, g, s, cp, rfl, ha', hB, k0, k1, k2, k3, k4, o1, o3, o4, k5, z5, z6, d6, hne, d4⟩ := hI
        simp only [List.setIfInBounds_toArray, List.set_cons_zero, List.set_cons_succ] at ha'
        subst ha'
        have e0 : l2 = false := h0
        clear ha h0
        subst e0
        have q0 := (hB.cell (p := ⟨w.heap.size + 1, 0, none⟩) (blk y0)).trans y0
        have q1 := (hB.cell (p := ⟨w.heap.size + 1, 1, none⟩) (blk y1)).trans y1
        have q2 := (hB.cell (p := ⟨w.heap.size + 1, 2, none⟩) (blk y2)).trans y2
        have q3 := (hB.cell (p := ⟨w.heap.size + 1, 3, none⟩) (blk y3)).trans y3
        go_simp
        refine hK.out _ _ ?_
        exact ⟨l0, l1, true, l3, l4, l5, l6, v0, v1, (.agg #[.bool on1, .slice a1 len1 cap1, .int .i64 lo1, .int .i64 hi1]), v3, v4, v5, ga, gb, g, s, cp, rfl, (by simp only [List.setIfInBounds_toArray, List.set_cons_zero, List.set_cons_succ]), (hB), (k0), (k1), (fun _ => rfl), (k3), (k4), (o1), (o3), (trivial), (k5), (z5), (z6), (d6), (trivial), (d4)⟩
      · refine StepOf.plain rfl ?_
        go_light
        intro listed a w1 hI h0 ha K hK
        obtain ⟨l0, l1, l2, l3, l4, l5, l6, v0, v1, v2, v3, v4, v5, ga, gb, g, s, cp, rfl, ha', hB, k0, k1, k2, k3, k4, o1, o3, o4, k5, z5, z6, d6, hne, d4⟩ := hI
        simp only [List.setIfInBounds_toArray, List.set_cons_zero, List.set_cons_succ] at ha'
        subst ha'
        have e0 : l3 = false := h0
        have g2 : l2 = true := by revert ha; cases l2 <;> simp [Region.binds]
        clear ha h0
        subst e0 g2
        obtain rfl := k2 rfl
        go_simp
        refine (toAbs_o on1 a1 len1 cap1 lo1 hi1 z1 _ (HZ1.out.below (below_on hS hB)) hL1).mono ?_
        rintro e w2 ⟨gx, rfl, hgx, ox, hb⟩
        go_wp2_with fail
        refine hK.out _ _ ?_
        exact ⟨l0, l1, true, true, l4, l5, l6, v0, v1, (.agg #[.bool on1, .slice a1 len1 cap1, .int .i64 lo1, .int .i64 hi1]), (.agg #[.bool on1, .slice (some ⟨gx, 0, none⟩) len1 len1, .int .i64 lo1, .int .i64 hi1]), v4, v5, ga, gx, g, s, cp, rfl, (by simp only [List.setIfInBounds_toArray, List.set_cons_zero, List.set_cons_succ]), (below_on hB hb), (k0), (k1), (fun _ => rfl), (fun _ => rfl), (k4), (fun h i => (o1 h i).below hb), (fun _ _ => ox), (trivial), (fun h => ⟨(k5 h).1, (k5 h).2.1, Nat.lt_of_lt_of_le (k5 h).2.2 hb.size⟩), (fun h i => (z5 h i).below hb), (fun h => (z6 h).below hb), (d6), (trivial), (d4)⟩
      · refine StepOf.plain rfl ?_
        go_light
        intro listed a w1 hI h0 ha K hK
        obtain ⟨l0, l1, l2, l3, l4, l5, l6, v0, v1, v2, v3, v4, v5, ga, gb, g, s, cp, rfl, ha', hB, k0, k1, k2, k3, k4, o1, o3, o4, k5, z5, z6, d6, hne, d4⟩ := hI
        simp only [List.setIfInBounds_toArray, List.set_cons_zero, List.set_cons_succ] at ha'
        subst ha'
        have e0 : l4 = false := h0
        have g1 : l1 = true := by revert ha; cases l1 <;> simp [Region.binds]
        have g3 : l3 = true := by revert ha; cases l3 <;> simp [Region.binds]
        clear ha h0
        subst e0 g1 g3
        obtain rfl := k1 rfl
        obtain rfl := k3 rfl
        have l6f : l6 = false := by cases l6; rfl; exact absurd (d4 rfl) (by simp)
        subst l6f
        go_simp
        have P1 := o1 rfl rfl
        have P3 := o3 rfl rfl
        have P5 := fun h => z5 h rfl
        clear o1 o3 z5
        refine (HI.out _ ga gb P1.rd P3.rd).mono ?_
        rintro e w2 ⟨rfl, hb⟩
        go_wp2_with fail
        refine hK.out _ _ ?_
        exact ⟨l0, true, l2, true, true, l5, false, v0, (.agg #[.bool on0, .slice (some ⟨ga, 0, none⟩) len0 len0, .int .i64 lo0, .int .i64 hi0]), v2, (.agg #[.bool on1, .slice (some ⟨gb, 0, none⟩) len1 len1, .int .i64 lo1, .int .i64 hi1]), (.agg #[.bool false, .slice none 0 0, .int .i64 0, .int .i64 0]), v5, ga, gb, g, s, cp, rfl, (by simp only [List.setIfInBounds_toArray, List.set_cons_zero, List.set_cons_succ]), (below_on hB hb), (k0), (fun _ => rfl), (k2), (fun _ => rfl), (fun _ => rfl), (fun _ _ => P1.below hb), (fun _ _ => P3.below hb), (trivial), (fun h => ⟨(k5 h).1, (k5 h).2.1, Nat.lt_of_lt_of_le (k5 h).2.2 hb.size⟩), (fun h _ => (P5 h).below hb), (fun h => by cases h), (fun h => by cases h), (trivial), (fun h => by cases h)⟩
      · refine StepOf.plain rfl ?_
        go_light
        intro listed a w1 hI h0 ha K hK
        obtain ⟨l0, l1, l2, l3, l4, l5, l6, v0, v1, v2, v3, v4, v5, ga, gb, g, s, cp, rfl, ha', hB, k0, k1, k2, k3, k4, o1, o3, o4, k5, z5, z6, d6, hne, d4⟩ := hI
        simp only [List.setIfInBounds_toArray, List.set_cons_zero, List.set_cons_succ] at ha'
        subst ha'
        have e0 : l5 = false := h0
        clear ha h0
        subst e0
        have l6f : l6 = false := by cases l6; rfl; exact absurd (d6 rfl) (by simp)
        subst l6f
        go_simp
        refine hK.out _ _ ?_
        exact ⟨l0, l1, l2, l3, l4, true, false, v0, v1, v2, v3, v4, (.pointer (some ⟨w1.heap.size, 0, none⟩)), ga, gb, w1.heap.size, s, cp, rfl, (by simp only [List.setIfInBounds_toArray, List.set_cons_zero, List.set_cons_succ]), (hB.alloc hB.size _), (k0), (k1), (k2), (k3), (k4), (fun h i => (o1 h i).alloc _), (fun h i => (o3 h i).alloc _), (trivial), (fun _ => ⟨rfl, hB.size, by simp⟩), (fun _ _ => Blk.new _ _ _), (fun h => by cases h), (fun h => by cases h), (trivial), (fun h => by cases h)⟩
      · refine StepOf.plain rfl ?_
        go_light
        intro listed a w1 hI h0 ha K hK
        obtain ⟨l0, l1, l2, l3, l4, l5, l6, v0, v1, v2, v3, v4, v5, ga, gb, g, s, cp, rfl, ha', hB, k0, k1, k2, k3, k4, o1, o3, o4, k5, z5, z6, d6, hne, d4⟩ := hI
        simp only [List.setIfInBounds_toArray, List.set_cons_zero, List.set_cons_succ] at ha'
        subst ha'
        have e0 : l6 = false := h0
        have g4 : l4 = true := by revert ha; cases l4 <;> simp [Region.binds]
        have g5 : l5 = true := by revert ha; cases l5 <;> simp [Region.binds]
        clear ha h0
        subst e0 g4 g5
        obtain rfl := k4 rfl
        obtain ⟨rfl, m5, n5⟩ := k5 rfl
        have hz := z5 rfl rfl
        obtain ⟨q0, q1, q2, q3⟩ := hz.four
        obtain ⟨f0, f1, f2, f3⟩ := hz.free
        go_simp
        refine hK.out _ _ ?_
        exact ⟨l0, l1, l2, l3, true, true, true, v0, v1, v2, v3, (.agg #[.bool false, .slice none 0 0, .int .i64 0, .int .i64 0]), (.pointer (some ⟨g, 0, none⟩)), ga, gb, g, s, cp, rfl, (by simp only [List.setIfInBounds_toArray, List.set_cons_zero, List.set_cons_succ]), ((((hB.setCell m5 _).setCell m5 _).setCell m5 _).setCell m5 _), (k0), (k1), (k2), (k3), (fun _ => rfl), (fun _ h => by cases h), (fun _ h => by cases h), (trivial), (fun _ => ⟨rfl, m5, by simpa only [World.size_setCell] using n5⟩), (fun _ h => by cases h), (fun _ => (((hz.set_ 0 _).set_ 1 _).set_ 2 _).set_ 3 _), (fun _ => rfl), (trivial), (fun _ => rfl)⟩
    case hend =>
      intro listed a w1 hall hI
      obtain ⟨l0, l1, l2, l3, l4, l5, l6, v0, v1, v2, v3, v4, v5, ga, gb, g, s, cp, rfl, ha', hB, k0, k1, k2, k3, k4, o1, o3, o4, k5, z5, z6, d6, hne, d4⟩ := hI
      simp only [List.setIfInBounds_toArray, List.set_cons_zero, List.set_cons_succ] at ha'
      subst ha'
      have g0 : l0 = true := hall 0
      have g1 : l1 = true := hall 1
      have g2 : l2 = true := hall 2
      have g3 : l3 = true := hall 3
      have g4 : l4 = true := hall 4
      have g5 : l5 = true := hall 5
      have g6 : l6 = true := hall 6
      subst g0 g1 g2 g3 g4 g5 g6
      obtain rfl := k0 rfl
      obtain rfl := k1 rfl
      obtain rfl := k2 rfl
      obtain rfl := k3 rfl
      obtain rfl := k4 rfl
      obtain ⟨rfl, m5, n5⟩ := k5 rfl
      have kz := z6 rfl
      obtain ⟨q0, q1, q2, q3⟩ := kz.four
      clear hall z5 z6 o1 o3 o4 k0 k1 k2 k3 k4 k5 d6 hne d4 kz
      go_wp2_with fail
      go_meet
      exact ⟨_, rfl, _, rfl, q0, q1, q2, q3, hB⟩
  case rest =>
  obtain ⟨W1, rfl, g13, rfl, q0, q1, q2, q3, hb⟩ := hcut
  clear x0 x1 x2 x3 zx
  clear y0 y1 y2 y3 zy
  replace b6 := (b6).below hb
  replace b9 := (b9).below hb
  obtain ⟨r0, r1, r2, r3⟩ := b6.out
  have zr := b6.lt
  have zq := blk q0
  have hSx : Below w.heap.size w W1 := below_on (hS) hb
  clear hS
  have hS := hSx
  clear hSx
  clear hb
  go_wp2_with (first
    | (go_at_call 17; refine (eqAbs_l false none none 0 0 0 0 0 [] _ (rd_nil _) (rd_nil _) (by omega)).mono ?_; rintro e w16 ⟨rfl, hb⟩; clear q0 q1 q2 q3 zq; clear r0 r1 r2 r3 zr; replace b9 := (b9).below hb; obtain ⟨p0, p1, p2, p3⟩ := b9.out; have zp := b9.lt; have hSx : Below w.heap.size w w16 := below_on (hS) hb; clear hS; have hS := hSx; clear hSx; clear hb)
    | (go_at_call 19; refine (held_nil false 0 0 1 (by omega) _).mono ?_; rintro e w17 ⟨rfl, hb⟩; have hSx : Below w.heap.size w w17 := below_on (hS) hb; clear hS; have hS := hSx; clear hSx; clear hb))
  all_goals (go_ret; exact ⟨rfl, hS⟩)
set_option maxRecDepth 100000 in
set_option maxHeartbeats 16000000 in
theorem walkF (on0 : Bool) (a0 : Option Addr) (len0 cap0 : Nat) (lo0 hi0 : Int) (z0 : List (Int × Int)) (on1 : Bool) (a1 : Option Addr) (len1 cap1 : Nat) (lo1 hi1 : Int) (z1 : List (Int × Int)) (w : World) (hz0 : RdI w a0 len0 z0) (hm0 : len0 ≤ maxLen) (hz1 : RdI w a1 len1 z1) (hm1 : len1 ≤ maxLen) (hL0 : len0 ≤ 1048576) (hl : (len0 : Int) + len1 ≤ 1048576) (jl jh : Int) (z : List (Int × Int)) (hs : ∀ (W : World) (ga gb : Nat), RdI W (some ⟨ga, 0, none⟩) len0 z0 → RdI W (some ⟨gb, 0, none⟩) len1 z1 → Calls Try.prog 20 #[.agg #[.bool on0, .slice (some ⟨ga, 0, none⟩) len0 len0, .int .i64 lo0, .int .i64 hi0], .agg #[.bool on1, .slice (some ⟨gb, 0, none⟩) len1 len1, .int .i64 lo1, .int .i64 hi1]] W (FullR W jl jh z)) (hi : ∀ (W : World) (ga gb : Nat), RdI W (some ⟨ga, 0, none⟩) len0 z0 → RdI W (some ⟨gb, 0, none⟩) len1 z1 → Calls Try.prog 21 #[.agg #[.bool on0, .slice (some ⟨ga, 0, none⟩) len0 len0, .int .i64 lo0, .int .i64 hi0], .agg #[.bool on1, .slice (some ⟨gb, 0, none⟩) len1 len1, .int .i64 lo1, .int .i64 hi1]] W (FullR W jl jh z)) :
    Calls Try.prog 5 #[.agg #[.bool on0, .slice a0 len0 cap0, .int .i64 lo0, .int .i64 hi0], .agg #[.bool on1, .slice a1 len1 cap1, .int .i64 lo1, .int .i64 hi1]] w fun e w' => e = .returned (.bool true) ∧ Below w.heap.size w w' := by
  have HZ0 := Lib.hid hz0
  have HZ1 := Lib.hid hz1
  have HS := Lib.hid hs
  have HI := Lib.hid hi
  clear hz0 hz1 hs hi
  obtain ⟨n1, hn1, hp1⟩ : ∃ n1 : Int, n1 = 1048576 - len0 ∧ 0 ≤ n1 := ⟨_, rfl, by omega⟩
  have hq1 : ¬ n1 < 0 := by omega
  have hu1 : n1 ≤ 1048576 := by omega
  obtain ⟨n2, hn2, hp2⟩ : ∃ n2 : Int, n2 = n1 - len1 ∧ 0 ≤ n2 := ⟨_, rfl, by omega⟩
  have hq2 : ¬ n2 < 0 := by omega
  have hL1 : len1 ≤ 1048576 := by omega
  obtain ⟨k1, hk1, hr1⟩ : ∃ k1 : Int, 1 + 2 * (len0 : Int) = k1 ∧ 0 ≤ k1 := ⟨_, rfl, by omega⟩
  obtain ⟨k2, hk2, hr2⟩ : ∃ k2 : Int, k1 + 2 * (len1 : Int) = k2 ∧ 0 ≤ k2 := ⟨_, rfl, by omega⟩
  have hv1 : k1 ≤ 1000000000 := by omega
  have hq3 : ¬ k2 < 0 := by omega
  have HN1 := Lib.hid hn1
  have HN2 := Lib.hid hn2
  have HK1 := Lib.hid hk1
  have HK2 := Lib.hid hk2
  clear hn1 hn2 hk1 hk2
  go_enter Try.func5, Try.ntmps5
  go_upto_region 8 with (go_at_call 13; first | (have _hk := hS; refine (szAbs_ok _ _ _ _ _ _ n1 n2 HN2.out hp2 (by omega) _).mono ?_; rintro e W0 ⟨rfl, hb⟩; clear x0 x1 x2 x3 zx; clear y0 y1 y2 y3 zy; replace bA := (bA).below hb; replace bB := (bB).below hb; obtain ⟨x0, x1, x2, x3⟩ := bA.out; have zx := bA.lt; obtain ⟨y0, y1, y2, y3⟩ := bB.out; have zy := bB.lt; have hSx : Below w.heap.size w W0 := below_on (hS) hb; clear hS; have hS := hSx; clear hSx; clear hb) | (refine (szAbs_ok _ _ _ _ _ _ _ n1 HN1.out hp1 (by omega) _).mono ?_; rintro e w1 ⟨rfl, hb⟩; have bA : Box w1 w.heap.size (.bool on0) (.slice a0 len0 cap0) (.int .i64 lo0) (.int .i64 hi0) := Box.below ((Box.new_at rfl).alloc _) hb; have bB : Box w1 (w.heap.size + 1) (.bool on1) (.slice a1 len1 cap1) (.int .i64 lo1) (.int .i64 hi1) := Box.below (Box.new_at (by simp only [World.size_alloc])) hb; obtain ⟨x0, x1, x2, x3⟩ := bA.out; have zx := bA.lt; obtain ⟨y0, y1, y2, y3⟩ := bB.out; have zy := bB.lt; have hS : Below w.heap.size w w1 := below_on (((Below.refl w.heap.size w).alloc (Nat.le_refl _) _).alloc (by simp only [World.size_alloc]; omega) _) hb; clear hb))
  go_cut [6] from 24 to 28 (fun p6 wx => ∃ W, W = wx ∧ ∃ g6 s6 cp6 : Nat, p6 = .pointer (some ⟨g6, 0, none⟩) ∧ OwnB wx s6 4 z ∧ wx.cell? ⟨g6, 0, none⟩ = some (.bool true) ∧ wx.cell? ⟨g6, 1, none⟩ = some (.slice (some ⟨s6, 0, none⟩) 4 cp6) ∧ wx.cell? ⟨g6, 2, none⟩ = some (.int .i64 jl) ∧ wx.cell? ⟨g6, 3, none⟩ = some (.int .i64 jh) ∧ Below W0.heap.size W0 wx)
  case first =>
    refine region_invA (fun A0 listed a w' => ∃ (l0 l1 l2 l3 l4 l5 l6 : Bool) (v0 v1 v2 v3 v4 v5 : Value) (ga gb g s cp : Nat), listed = #[l0, l1, l2, l3, l4, l5, l6] ∧ a = ⟨((((((A0.tmps.setIfInBounds 24 v0).setIfInBounds 25 v1).setIfInBounds 26 v2).setIfInBounds 27 v3).setIfInBounds 28 v4).setIfInBounds 6 v5), A0.defers⟩ ∧ Below W0.heap.size W0 w' ∧ (l0 = true → v0 = .agg #[.bool on0, .slice a0 len0 cap0, .int .i64 lo0, .int .i64 hi0]) ∧ (l1 = true → v1 = .agg #[.bool on0, .slice (some ⟨ga, 0, none⟩) len0 len0, .int .i64 lo0, .int .i64 hi0]) ∧ (l2 = true → v2 = .agg #[.bool on1, .slice a1 len1 cap1, .int .i64 lo1, .int .i64 hi1]) ∧ (l3 = true → v3 = .agg #[.bool on1, .slice (some ⟨gb, 0, none⟩) len1 len1, .int .i64 lo1, .int .i64 hi1]) ∧ (l4 = true → v4 = .agg #[.bool true, .slice (some ⟨s, 0, none⟩) 4 cp, .int .i64 jl, .int .i64 jh]) ∧ (l1 = true → l6 = false → OwnB w' ga len0 z0) ∧ (l3 = true → l6 = false → OwnB w' gb len1 z1) ∧ (l4 = true → OwnB w' s 4 z) ∧ (l5 = true → v5 = .pointer (some ⟨g, 0, none⟩) ∧ W0.heap.size ≤ g ∧ g < w'.heap.size) ∧ (l5 = true → l6 = false → Blk w' g 29 #[.bool false, .slice none 0 0, .int .i64 0, .int .i64 0]) ∧ (l6 = true → Blk w' g 29 #[.bool true, .slice (some ⟨s, 0, none⟩) 4 cp, .int .i64 jl, .int .i64 jh]) ∧ (l6 = true → l5 = true) ∧ (l4 = true → l5 = true → s ≠ g) ∧ (l6 = true → l4 = true)) (by kernel_rfl) (by kernel_rfl) ?hz ?h0 ?hs ?hend
    case hz =>
      rintro listed a w1 ⟨l0, l1, l2, l3, l4, l5, l6, v0, v1, v2, v3, v4, v5, ga, gb, g, s, cp, rfl, -⟩
      rfl
    case h0 => exact ⟨false, false, false, false, false, false, false, undef, undef, undef, undef, undef, undef, 0, 0, 0, 0, 0, rfl, (by simp only [List.setIfInBounds_toArray, List.set_cons_zero, List.set_cons_succ]), (Below.refl _ _).drew, (fun h => by cases h), (fun h => by cases h), (fun h => by cases h), (fun h => by cases h), (fun h => by cases h), (fun h => by cases h), (fun h => by cases h), (fun h => by cases h), (fun h => by cases h), (fun h => by cases h), (fun h => by cases h), (fun h => by cases h), (fun h => by cases h), (fun h => by cases h)⟩
    case hs =>
      refine AllSteps.cons ?_ <| AllSteps.cons ?_ <| AllSteps.cons ?_ <| AllSteps.cons ?_ <| AllSteps.cons ?_ <| AllSteps.cons ?_ <| AllSteps.cons ?_ <| AllSteps.nil
      · refine StepOf.plain rfl ?_
        go_light
        intro listed a w1 hI h0 ha K hK
        obtain ⟨l0, l1, l2, l3, l4, l5, l6, v0, v1, v2, v3, v4, v5, ga, gb, g, s, cp, rfl, ha', hB, k0, k1, k2, k3, k4, o1, o3, o4, k5, z5, z6, d6, hne, d4⟩ := hI
        simp only [List.setIfInBounds_toArray, List.set_cons_zero, List.set_cons_succ] at ha'
        subst ha'
        have e0 : l0 = false := h0
        clear ha h0
        subst e0
        have q0 := (hB.cell (p := ⟨w.heap.size, 0, none⟩) (blk x0)).trans x0
        have q1 := (hB.cell (p := ⟨w.heap.size, 1, none⟩) (blk x1)).trans x1
        have q2 := (hB.cell (p := ⟨w.heap.size, 2, none⟩) (blk x2)).trans x2
        have q3 := (hB.cell (p := ⟨w.heap.size, 3, none⟩) (blk x3)).trans x3
        go_simp
        refine hK.out _ _ ?_
        exact ⟨true, l1, l2, l3, l4, l5, l6, (.agg #[.bool on0, .slice a0 len0 cap0, .int .i64 lo0, .int .i64 hi0]), v1, v2, v3, v4, v5, ga, gb, g, s, cp, rfl, (by simp only [List.setIfInBounds_toArray, List.set_cons_zero, List.set_cons_succ]), (hB), (fun _ => rfl), (k1), (k2), (k3), (k4), (o1), (o3), (o4), (k5), (z5), (z6), (d6), (hne), (d4)⟩
      · refine StepOf.plain rfl ?_
        go_light
        intro listed a w1 hI h0 ha K hK
        obtain ⟨l0, l1, l2, l3, l4, l5, l6, v0, v1, v2, v3, v4, v5, ga, gb, g, s, cp, rfl, ha', hB, k0, k1, k2, k3, k4, o1, o3, o4, k5, z5, z6, d6, hne, d4⟩ := hI
        simp only [List.setIfInBounds_toArray, List.set_cons_zero, List.set_cons_succ] at ha'
        subst ha'
        have e0 : l1 = false := h0
        have g0 : l0 = true := by revert ha; cases l0 <;> simp [Region.binds]
        clear ha h0
        subst e0 g0
        obtain rfl := k0 rfl
        go_simp
        refine (toAbs_o on0 a0 len0 cap0 lo0 hi0 z0 _ (HZ0.out.below (below_on hS hB)) hL0).mono ?_
        rintro e w2 ⟨gx, rfl, hgx, ox, hb⟩
        go_wp2_with fail
        refine hK.out _ _ ?_
        exact ⟨true, true, l2, l3, l4, l5, l6, (.agg #[.bool on0, .slice a0 len0 cap0, .int .i64 lo0, .int .i64 hi0]), (.agg #[.bool on0, .slice (some ⟨gx, 0, none⟩) len0 len0, .int .i64 lo0, .int .i64 hi0]), v2, v3, v4, v5, gx, gb, g, s, cp, rfl, (by simp only [List.setIfInBounds_toArray, List.set_cons_zero, List.set_cons_succ]), (below_on hB hb), (fun _ => rfl), (fun _ => rfl), (k2), (k3), (k4), (fun _ _ => ox), (fun h i => (o3 h i).below hb), (fun h => (o4 h).below hb), (fun h => ⟨(k5 h).1, (k5 h).2.1, Nat.lt_of_lt_of_le (k5 h).2.2 hb.size⟩), (fun h i => (z5 h i).below hb), (fun h => (z6 h).below hb), (d6), (hne), (d4)⟩
      · refine StepOf.plain rfl ?_
        go_light
        intro listed a w1 hI h0 ha K hK
        obtain ⟨l0, l1, l2, l3, l4, l5, l6, v0, v1, v2, v3, v4, v5, ga, gb, g, s, cp, rfl, ha', hB, k0, k1, k2, k3, k4, o1, o3, o4, k5, z5, z6, d6, hne, d4⟩ := hI
        simp only [List.setIfInBounds_toArray, List.set_cons_zero, List.set_cons_succ] at ha'
        subst ha'
        have e0 : l2 = false := h0
        clear ha h0
        subst e0
        have q0 := (hB.cell (p := ⟨w.heap.size + 1, 0, none⟩) (blk y0)).trans y0
        have q1 := (hB.cell (p := ⟨w.heap.size + 1, 1, none⟩) (blk y1)).trans y1
        have q2 := (hB.cell (p := ⟨w.heap.size + 1, 2, none⟩) (blk y2)).trans y2
        have q3 := (hB.cell (p := ⟨w.heap.size + 1, 3, none⟩) (blk y3)).trans y3
        go_simp
        refine hK.out _ _ ?_
        exact ⟨l0, l1, true, l3, l4, l5, l6, v0, v1, (.agg #[.bool on1, .slice a1 len1 cap1, .int .i64 lo1, .int .i64 hi1]), v3, v4, v5, ga, gb, g, s, cp, rfl, (by simp only [List.setIfInBounds_toArray, List.set_cons_zero, List.set_cons_succ]), (hB), (k0), (k1), (fun _ => rfl), (k3), (k4), (o1), (o3), (o4), (k5), (z5), (z6), (d6), (hne), (d4)⟩
      · refine StepOf.plain rfl ?_
        go_light
        intro listed a w1 hI h0 ha K hK
        obtain ⟨l0, l1, l2, l3, l4, l5, l6, v0, v1, v2, v3, v4, v5, ga, gb, g, s, cp, rfl, ha', hB, k0, k1, k2, k3, k4, o1, o3, o4, k5, z5, z6, d6, hne, d4⟩ := hI
        simp only [List.setIfInBounds_toArray, List.set_cons_zero, List.set_cons_succ] at ha'
        subst ha'
        have e0 : l3 = false := h0
        have g2 : l2 = true := by revert ha; cases l2 <;> simp [Region.binds]
        clear ha h0
        subst e0 g2
        obtain rfl := k2 rfl
        go_simp
        refine (toAbs_o on1 a1 len1 cap1 lo1 hi1 z1 _ (HZ1.out.below (below_on hS hB)) hL1).mono ?_
        rintro e w2 ⟨gx, rfl, hgx, ox, hb⟩
        go_wp2_with fail
        refine hK.out _ _ ?_
        exact ⟨l0, l1, true, true, l4, l5, l6, v0, v1, (.agg #[.bool on1, .slice a1 len1 cap1, .int .i64 lo1, .int .i64 hi1]), (.agg #[.bool on1, .slice (some ⟨gx, 0, none⟩) len1 len1, .int .i64 lo1, .int .i64 hi1]), v4, v5, ga, gx, g, s, cp, rfl, (by simp only [List.setIfInBounds_toArray, List.set_cons_zero, List.set_cons_succ]), (below_on hB hb), (k0), (k1), (fun _ => rfl), (fun _ => rfl), (k4), (fun h i => (o1 h i).below hb), (fun _ _ => ox), (fun h => (o4 h).below hb), (fun h => ⟨(k5 h).1, (k5 h).2.1, Nat.lt_of_lt_of_le (k5 h).2.2 hb.size⟩), (fun h i => (z5 h i).below hb), (fun h => (z6 h).below hb), (d6), (hne), (d4)⟩
      · refine StepOf.plain rfl ?_
        go_light
        intro listed a w1 hI h0 ha K hK
        obtain ⟨l0, l1, l2, l3, l4, l5, l6, v0, v1, v2, v3, v4, v5, ga, gb, g, s, cp, rfl, ha', hB, k0, k1, k2, k3, k4, o1, o3, o4, k5, z5, z6, d6, hne, d4⟩ := hI
        simp only [List.setIfInBounds_toArray, List.set_cons_zero, List.set_cons_succ] at ha'
        subst ha'
        have e0 : l4 = false := h0
        have g1 : l1 = true := by revert ha; cases l1 <;> simp [Region.binds]
        have g3 : l3 = true := by revert ha; cases l3 <;> simp [Region.binds]
        clear ha h0
        subst e0 g1 g3
        obtain rfl := k1 rfl
        obtain rfl := k3 rfl
        have l6f : l6 = false := by cases l6; rfl; exact absurd (d4 rfl) (by simp)
        subst l6f
        go_simp
        have P1 := o1 rfl rfl
        have P3 := o3 rfl rfl
        have P5 := fun h => z5 h rfl
        clear o1 o3 z5
        refine (HS.out _ ga gb P1.rd P3.rd).mono ?_
        rintro e w2 ⟨sg, cx, rfl, hsg, ox, hb⟩
        go_wp2_with fail
        refine hK.out _ _ ?_
        exact ⟨l0, true, l2, true, true, l5, false, v0, (.agg #[.bool on0, .slice (some ⟨ga, 0, none⟩) len0 len0, .int .i64 lo0, .int .i64 hi0]), v2, (.agg #[.bool on1, .slice (some ⟨gb, 0, none⟩) len1 len1, .int .i64 lo1, .int .i64 hi1]), (.agg #[.bool true, .slice (some ⟨sg, 0, none⟩) 4 cx, .int .i64 jl, .int .i64 jh]), v5, ga, gb, g, sg, cx, rfl, (by simp only [List.setIfInBounds_toArray, List.set_cons_zero, List.set_cons_succ]), (below_on hB hb), (k0), (fun _ => rfl), (k2), (fun _ => rfl), (fun _ => rfl), (fun _ _ => P1.below hb), (fun _ _ => P3.below hb), (fun _ => ox), (fun h => ⟨(k5 h).1, (k5 h).2.1, Nat.lt_of_lt_of_le (k5 h).2.2 hb.size⟩), (fun h _ => (P5 h).below hb), (fun h => by cases h), (fun h => by cases h), (fun _ h => by have := (k5 h).2.2; omega), (fun h => by cases h)⟩
      · refine StepOf.plain rfl ?_
        go_light
        intro listed a w1 hI h0 ha K hK
        obtain ⟨l0, l1, l2, l3, l4, l5, l6, v0, v1, v2, v3, v4, v5, ga, gb, g, s, cp, rfl, ha', hB, k0, k1, k2, k3, k4, o1, o3, o4, k5, z5, z6, d6, hne, d4⟩ := hI
        simp only [List.setIfInBounds_toArray, List.set_cons_zero, List.set_cons_succ] at ha'
        subst ha'
        have e0 : l5 = false := h0
        clear ha h0
        subst e0
        have l6f : l6 = false := by cases l6; rfl; exact absurd (d6 rfl) (by simp)
        subst l6f
        go_simp
        refine hK.out _ _ ?_
        exact ⟨l0, l1, l2, l3, l4, true, false, v0, v1, v2, v3, v4, (.pointer (some ⟨w1.heap.size, 0, none⟩)), ga, gb, w1.heap.size, s, cp, rfl, (by simp only [List.setIfInBounds_toArray, List.set_cons_zero, List.set_cons_succ]), (hB.alloc hB.size _), (k0), (k1), (k2), (k3), (k4), (fun h i => (o1 h i).alloc _), (fun h i => (o3 h i).alloc _), (fun h => (o4 h).alloc _), (fun _ => ⟨rfl, hB.size, by simp⟩), (fun _ _ => Blk.new _ _ _), (fun h => by cases h), (fun h => by cases h), (fun h _ => by have := (o4 h).lt; omega), (fun h => by cases h)⟩
      · refine StepOf.plain rfl ?_
        go_light
        intro listed a w1 hI h0 ha K hK
        obtain ⟨l0, l1, l2, l3, l4, l5, l6, v0, v1, v2, v3, v4, v5, ga, gb, g, s, cp, rfl, ha', hB, k0, k1, k2, k3, k4, o1, o3, o4, k5, z5, z6, d6, hne, d4⟩ := hI
        simp only [List.setIfInBounds_toArray, List.set_cons_zero, List.set_cons_succ] at ha'
        subst ha'
        have e0 : l6 = false := h0
        have g4 : l4 = true := by revert ha; cases l4 <;> simp [Region.binds]
        have g5 : l5 = true := by revert ha; cases l5 <;> simp [Region.binds]
        clear ha h0
        subst e0 g4 g5
        obtain rfl := k4 rfl
        obtain ⟨rfl, m5, n5⟩ := k5 rfl
        have hz := z5 rfl rfl
        obtain ⟨q0, q1, q2, q3⟩ := hz.four
        obtain ⟨f0, f1, f2, f3⟩ := hz.free
        have hsg := hne rfl rfl
        go_simp
        refine hK.out _ _ ?_
        exact ⟨l0, l1, l2, l3, true, true, true, v0, v1, v2, v3, (.agg #[.bool true, .slice (some ⟨s, 0, none⟩) 4 cp, .int .i64 jl, .int .i64 jh]), (.pointer (some ⟨g, 0, none⟩)), ga, gb, g, s, cp, rfl, (by simp only [List.setIfInBounds_toArray, List.set_cons_zero, List.set_cons_succ]), ((((hB.setCell m5 _).setCell m5 _).setCell m5 _).setCell m5 _), (k0), (k1), (k2), (k3), (fun _ => rfl), (fun _ h => by cases h), (fun _ h => by cases h), (fun _ => ((((o4 rfl).far hsg _).far hsg _).far hsg _).far hsg _), (fun _ => ⟨rfl, m5, by simpa only [World.size_setCell] using n5⟩), (fun _ h => by cases h), (fun _ => (((hz.set_ 0 _).set_ 1 _).set_ 2 _).set_ 3 _), (fun _ => rfl), (fun _ _ => hsg), (fun _ => rfl)⟩
    case hend =>
      intro listed a w1 hall hI
      obtain ⟨l0, l1, l2, l3, l4, l5, l6, v0, v1, v2, v3, v4, v5, ga, gb, g, s, cp, rfl, ha', hB, k0, k1, k2, k3, k4, o1, o3, o4, k5, z5, z6, d6, hne, d4⟩ := hI
      simp only [List.setIfInBounds_toArray, List.set_cons_zero, List.set_cons_succ] at ha'
      subst ha'
      have g0 : l0 = true := hall 0
      have g1 : l1 = true := hall 1
      have g2 : l2 = true := hall 2
      have g3 : l3 = true := hall 3
      have g4 : l4 = true := hall 4
      have g5 : l5 = true := hall 5
      have g6 : l6 = true := hall 6
      subst g0 g1 g2 g3 g4 g5 g6
      obtain rfl := k0 rfl
      obtain rfl := k1 rfl
      obtain rfl := k2 rfl
      obtain rfl := k3 rfl
      obtain rfl := k4 rfl
      obtain ⟨rfl, m5, n5⟩ := k5 rfl
      have kz := z6 rfl
      obtain ⟨q0, q1, q2, q3⟩ := kz.four
      have oo := o4 rfl
      clear hall z5 z6 o1 o3 o4 k0 k1 k2 k3 k4 k5 d6 hne d4 kz
      go_wp2_with fail
      go_meet
      exact ⟨_, rfl, _, _, _, rfl, oo, q0, q1, q2, q3, hB⟩
  case rest =>
  obtain ⟨W1, rfl, g6, s6, cp6, rfl, o6, q0, q1, q2, q3, hb⟩ := hcut
  clear x0 x1 x2 x3 zx
  clear y0 y1 y2 y3 zy
  replace bA := (bA).below hb
  replace bB := (bB).below hb
  have b6 : Box W1 g6 (.bool true) (.slice (some ⟨s6, 0, none⟩) 4 cp6) (.int .i64 jl) (.int .i64 jh) := ⟨q0, q1, q2, q3⟩
  obtain ⟨x0, x1, x2, x3⟩ := bA.out
  have zx := bA.lt
  obtain ⟨y0, y1, y2, y3⟩ := bB.out
  have zy := bB.lt
  have i0 := b6.lt
  have i0' := bB.lt
  have i0s := o6.lt
  clear q0 q1 q2 q3
  have hSx : Below w.heap.size w W1 := below_on (hS) hb
  clear hS
  have hS := hSx
  clear hSx
  clear hb
  go_upto_region 14 with (first
    | (go_at_call 15; first | (have _hk := st1; refine (toAbs_o on1 a1 len1 cap1 lo1 hi1 z1 _ (HZ1.out.below (hS.alloc hS.size _)) hL1).mono ?_; rintro e w4 ⟨gb, rfl, hgb, o8, hb⟩; simp only [World.size_alloc] at hgb; have i5 : w3.heap.size < gb := (by omega); have i6 := o8.lt; clear x0 x1 x2 x3 zx; clear y0 y1 y2 y3 zy; replace bA := (bA.alloc _).below hb; replace bB := (bB.alloc _).below hb; replace b6 := (b6.alloc _).below hb; replace o6 := (o6.alloc _).below hb; replace o7 := (o7.alloc _).below hb; have b7 : Box w4 w3.heap.size (.bool on0) (.slice (some ⟨ga, 0, none⟩) len0 len0) (.int .i64 lo0) (.int .i64 hi0) := Box.below (Box.new_at rfl) hb; obtain ⟨p0, p1, p2, p3⟩ := b7.out; have zp := b7.lt; have hSx : Below w.heap.size w w4 := below_on (hS.alloc hS.size _) hb; clear hS; have hS := hSx; clear hSx; clear hb hgb) | (refine (toAbs_o on0 a0 len0 cap0 lo0 hi0 z0 _ (HZ0.out.below hS) hL0).mono ?_; rintro e w3 ⟨ga, rfl, hga, o7, hb⟩; have i1 : g6 < ga := (by omega); have i3 : w.heap.size + 1 < ga := (by omega); have i2 : s6 < ga := (by omega); have i4 := o7.lt; clear x0 x1 x2 x3 zx; clear y0 y1 y2 y3 zy; replace bA := (bA).below hb; replace bB := (bB).below hb; replace b6 := (b6).below hb; replace o6 := (o6).below hb; obtain ⟨x0, x1, x2, x3⟩ := bA.out; have zx := bA.lt; obtain ⟨y0, y1, y2, y3⟩ := bB.out; have zy := bB.lt; have hSx : Below w.heap.size w w3 := below_on (hS) hb; clear hS; have hS := hSx; clear hSx; clear hb hga; have st1 := True.intro))
    | (go_at_call 21; refine (HI.out _ ga gb (o7.alloc _).rd (o8.alloc _).rd).mono ?_; rintro e w5 ⟨sg, cp, rfl, hsg, o9, hb⟩; simp only [World.size_alloc] at hsg; have i7 : w4.heap.size < sg := (by omega); have i8 := o9.lt; clear p0 p1 p2 p3 zp; replace bA := (bA.alloc _).below hb; replace bB := (bB.alloc _).below hb; replace b6 := (b6.alloc _).below hb; replace o6 := (o6.alloc _).below hb; replace o7 := (o7.alloc _).below hb; replace b7 := (b7.alloc _).below hb; replace o8 := (o8.alloc _).below hb; have b8 : Box w5 w4.heap.size (.bool on1) (.slice (some ⟨gb, 0, none⟩) len1 len1) (.int .i64 lo1) (.int .i64 hi1) := Box.below (Box.new_at rfl) hb; have hSx : Below w.heap.size w w5 := below_on (hS.alloc hS.size _) hb; clear hS; have hS := hSx; clear hSx; obtain ⟨r0, r1, r2, r3⟩ := b6.out; have zr := b6.lt; clear hb)
    | (go_at_call 17; refine (eqAbs_l true _ _ 4 _ _ jl jh z _ (o9.alloc _).rd (o6.alloc _).rd (by omega)).mono ?_; rintro e w6 ⟨rfl, hb⟩; clear r0 r1 r2 r3 zr; replace bA := (bA.alloc _).below hb; replace bB := (bB.alloc _).below hb; replace b6 := (b6.alloc _).below hb; replace o6 := (o6.alloc _).below hb; replace o7 := (o7.alloc _).below hb; replace b7 := (b7.alloc _).below hb; replace o8 := (o8.alloc _).below hb; replace b8 := (b8.alloc _).below hb; replace o9 := (o9.alloc _).below hb; have b9 : Box w6 w5.heap.size (.bool true) (.slice (some ⟨sg, 0, none⟩) 4 cp) (.int .i64 jl) (.int .i64 jh) := Box.below (Box.new_at rfl) hb; have hSx : Below w.heap.size w w6 := below_on (hS.alloc hS.size _) hb; clear hS; have hS := hSx; clear hSx; obtain ⟨p0, p1, p2, p3⟩ := b7.out; have zp := b7.lt; obtain ⟨x0, x1, x2, x3⟩ := bA.out; have zx := bA.lt; clear hb))
  go_region_held3 (fun w' => w'.cell? ⟨w3.heap.size, 0, none⟩ = some (.bool on0) ∧ w'.cell? ⟨w3.heap.size, 1, none⟩ = some (.slice (some ⟨ga, 0, none⟩) len0 len0) ∧ w'.cell? ⟨w3.heap.size, 2, none⟩ = some (.int .i64 lo0) ∧ w'.cell? ⟨w3.heap.size, 3, none⟩ = some (.int .i64 hi0) ∧ w'.cell? ⟨w.heap.size, 0, none⟩ = some (.bool on0) ∧ w'.cell? ⟨w.heap.size, 1, none⟩ = some (.slice a0 len0 cap0) ∧ w'.cell? ⟨w.heap.size, 2, none⟩ = some (.int .i64 lo0) ∧ w'.cell? ⟨w.heap.size, 3, none⟩ = some (.int .i64 hi0)) (((try go_split_ands); (repeat' apply And.intro); all_goals (first | with_reducible assumption | ((with_reducible refine keep_alloc _ ?_); with_reducible assumption) | ((with_reducible refine below_alloc _ ?_); with_reducible assumption) | ((with_reducible refine keep_realloc (by assumption) ?_); (simp only []; omega)) | ((with_reducible refine below_realloc (by assumption) ?_); omega) | ((with_reducible refine keep_realloc (by assumption) ?_); (simp only [World.size_alloc]; omega)) | ((with_reducible refine below_realloc (by assumption) ?_); (simp only [World.size_alloc]; omega)) | ((with_reducible refine keep_realloc2 (by assumption) ?_); (simp only []; omega)) | ((with_reducible refine keep_realloc (by assumption) ?_); (simp only [World.size_setCell]; omega)) | ((with_reducible refine below_realloc (by assumption) ?_); (simp only [World.size_setCell]; omega)) | ((with_reducible refine keep_under (by assumption) (by simp only []; omega) (by simp [World.setCell]) ?_); first | exact cset (by simp only []; omega) | exact (cset (by simp only []; omega)).trans (cset (by simp only []; omega))) | ((with_reducible refine below_under (by assumption) (by omega) ?_); first | exact (Below.refl _ _).setCell (by simp only []; omega) _ | exact ((Below.refl _ _).setCell (by simp only []; omega) _).setCell (by simp only []; omega) _) | ((with_reducible refine below_realloc2 (by assumption) ?_); omega) | (with_reducible exact cell_later hb (by assumption)) | (with_reducible exact below_on (by assumption) hb) | ((repeat (with_reducible refine keep_set _ (by (simp only []; omega)) ?_)); with_reducible assumption) | ((repeat (with_reducible refine below_set _ (by (simp only []; omega)) ?_)); with_reducible assumption) | (simp; done) | (simp [go_sem]; done) | (simp [go_sem, *]; done) | go_grown))) (first | (go_at_call 15; refine (toAbs_o on0 a0 len0 cap0 lo0 hi0 z0 _ (HZ0.out.below hS.drew) hL0).mono ?_; rintro e w7 ⟨gx, rfl, hgx, ox, hb⟩; clear p0 p1 p2 p3 zp; clear x0 x1 x2 x3 zx; replace bA := (bA.drew).below hb; replace bB := (bB.drew).below hb; replace b6 := (b6.drew).below hb; replace o6 := (o6.drew).below hb; replace o7 := (o7.drew).below hb; replace b7 := (b7.drew).below hb; replace o8 := (o8.drew).below hb; replace b8 := (b8.drew).below hb; replace o9 := (o9.drew).below hb; replace b9 := (b9.drew).below hb; obtain ⟨p0, p1, p2, p3⟩ := b7.out; have zp := b7.lt; have hSx : Below w.heap.size w w7 := below_on (hS.drew) hb; clear hS; have hS := hSx; clear hSx) | (go_at_call 17; (try clear hb); refine (eqAbs_l on0 _ _ len0 _ _ lo0 hi0 z0 _ o7.rd ox.rd hL0).mono ?_; rintro e w8 ⟨rfl, hb⟩; clear p0 p1 p2 p3 zp; replace bA := (bA).below hb; replace bB := (bB).below hb; replace b6 := (b6).below hb; replace o6 := (o6).below hb; replace o7 := (o7).below hb; replace b7 := (b7).below hb; replace o8 := (o8).below hb; replace b8 := (b8).below hb; replace o9 := (o9).below hb; replace b9 := (b9).below hb; have hSx : Below w.heap.size w w8 := below_on (hS) hb; clear hS; have hS := hSx; clear hSx))
  clear hb ox hgx
  obtain ⟨p0, p1, p2, p3⟩ := b8.out
  have zp := b8.lt
  obtain ⟨y0, y1, y2, y3⟩ := bB.out
  have zy := bB.lt
  go_upto_region 16 with fail
  go_region_held3 (fun w' => w'.cell? ⟨w4.heap.size, 0, none⟩ = some (.bool on1) ∧ w'.cell? ⟨w4.heap.size, 1, none⟩ = some (.slice (some ⟨gb, 0, none⟩) len1 len1) ∧ w'.cell? ⟨w4.heap.size, 2, none⟩ = some (.int .i64 lo1) ∧ w'.cell? ⟨w4.heap.size, 3, none⟩ = some (.int .i64 hi1) ∧ w'.cell? ⟨w.heap.size + 1, 0, none⟩ = some (.bool on1) ∧ w'.cell? ⟨w.heap.size + 1, 1, none⟩ = some (.slice a1 len1 cap1) ∧ w'.cell? ⟨w.heap.size + 1, 2, none⟩ = some (.int .i64 lo1) ∧ w'.cell? ⟨w.heap.size + 1, 3, none⟩ = some (.int .i64 hi1)) (((try go_split_ands); (repeat' apply And.intro); all_goals (first | with_reducible assumption | ((with_reducible refine keep_alloc _ ?_); with_reducible assumption) | ((with_reducible refine below_alloc _ ?_); with_reducible assumption) | ((with_reducible refine keep_realloc (by assumption) ?_); (simp only []; omega)) | ((with_reducible refine below_realloc (by assumption) ?_); omega) | ((with_reducible refine keep_realloc (by assumption) ?_); (simp only [World.size_alloc]; omega)) | ((with_reducible refine below_realloc (by assumption) ?_); (simp only [World.size_alloc]; omega)) | ((with_reducible refine keep_realloc2 (by assumption) ?_); (simp only []; omega)) | ((with_reducible refine keep_realloc (by assumption) ?_); (simp only [World.size_setCell]; omega)) | ((with_reducible refine below_realloc (by assumption) ?_); (simp only [World.size_setCell]; omega)) | ((with_reducible refine keep_under (by assumption) (by simp only []; omega) (by simp [World.setCell]) ?_); first | exact cset (by simp only []; omega) | exact (cset (by simp only []; omega)).trans (cset (by simp only []; omega))) | ((with_reducible refine below_under (by assumption) (by omega) ?_); first | exact (Below.refl _ _).setCell (by simp only []; omega) _ | exact ((Below.refl _ _).setCell (by simp only []; omega) _).setCell (by simp only []; omega) _) | ((with_reducible refine below_realloc2 (by assumption) ?_); omega) | (with_reducible exact cell_later hb (by assumption)) | (with_reducible exact below_on (by assumption) hb) | ((repeat (with_reducible refine keep_set _ (by (simp only []; omega)) ?_)); with_reducible assumption) | ((repeat (with_reducible refine below_set _ (by (simp only []; omega)) ?_)); with_reducible assumption) | (simp; done) | (simp [go_sem]; done) | (simp [go_sem, *]; done) | go_grown))) (first | (go_at_call 15; refine (toAbs_o on1 a1 len1 cap1 lo1 hi1 z1 _ (HZ1.out.below hS.drew) hL1).mono ?_; rintro e w9 ⟨gx, rfl, hgx, ox, hb⟩; clear p0 p1 p2 p3 zp; clear y0 y1 y2 y3 zy; replace bA := (bA.drew).below hb; replace bB := (bB.drew).below hb; replace b6 := (b6.drew).below hb; replace o6 := (o6.drew).below hb; replace o7 := (o7.drew).below hb; replace b7 := (b7.drew).below hb; replace o8 := (o8.drew).below hb; replace b8 := (b8.drew).below hb; replace o9 := (o9.drew).below hb; replace b9 := (b9.drew).below hb; obtain ⟨p0, p1, p2, p3⟩ := b8.out; have zp := b8.lt; have hSx : Below w.heap.size w w9 := below_on (hS.drew) hb; clear hS; have hS := hSx; clear hSx) | (go_at_call 17; (try clear hb); refine (eqAbs_l on1 _ _ len1 _ _ lo1 hi1 z1 _ o8.rd ox.rd hL1).mono ?_; rintro e w10 ⟨rfl, hb⟩; clear p0 p1 p2 p3 zp; replace bA := (bA).below hb; replace bB := (bB).below hb; replace b6 := (b6).below hb; replace o6 := (o6).below hb; replace o7 := (o7).below hb; replace b7 := (b7).below hb; replace o8 := (o8).below hb; replace b8 := (b8).below hb; replace o9 := (o9).below hb; replace b9 := (b9).below hb; have hSx : Below w.heap.size w w10 := below_on (hS) hb; clear hS; have hS := hSx; clear hSx))
  clear hb ox hgx
  obtain ⟨p0, p1, p2, p3⟩ := b7.out
  have zp := b7.lt
  obtain ⟨r0, r1, r2, r3⟩ := b8.out
  have zr := b8.lt
  go_upto_region 31 with (first
    | (go_at_call 18; first | (have _hk := st3; refine (mark_o true sg 4 _ jl jh 1 9 z _ o9 (by omega) (by omega) (by omega) (by omega)).mono ?_; rintro e w14 ⟨rfl, o9', hb⟩; clear p0 p1 p2 p3 zp; replace bA := bA.but hb (by omega); replace bB := bB.but hb (by omega); replace b6 := b6.but hb (by omega); replace b9 := b9.but hb (by omega); replace o6 := o6.but hb (by omega); obtain ⟨p0, p1, p2, p3⟩ := b9.out; have zp := b9.lt; have hSx : Below w.heap.size w w14 := But.to_below hb hS (by omega) hS.size; clear hS; have hS := hSx; clear hSx; clear hb o9; have o9 := o9'; clear o9') | (have _hk := st2; refine (mark_o on1 gb len1 len1 lo1 hi1 k1 k2 z1 _ o8 hL1 hr1 hv1 HK2.out).mono ?_; rintro e w12 ⟨rfl, o8', hb⟩; clear r0 r1 r2 r3 zr; replace bA := bA.but hb (by omega); replace bB := bB.but hb (by omega); replace b6 := b6.but hb (by omega); replace b9 := b9.but hb (by omega); replace o6 := o6.but hb (by omega); replace o9 := o9.but hb (by omega); obtain ⟨r0, r1, r2, r3⟩ := b6.out; have zr := b6.lt; obtain ⟨p0, p1, p2, p3⟩ := b9.out; have zp := b9.lt; have hSx : Below w.heap.size w w12 := But.to_below hb hS (by omega) hS.size; clear hS; have hS := hSx; clear hSx; clear hb o8 o8'; have st3 := True.intro) | (refine (mark_o on0 ga len0 len0 lo0 hi0 1 k1 z0 _ o7 hL0 (by omega) (by omega) HK1.out).mono ?_; rintro e w11 ⟨rfl, o7', hb⟩; clear p0 p1 p2 p3 zp; clear r0 r1 r2 r3 zr; replace bA := bA.but hb (by omega); replace bB := bB.but hb (by omega); replace b6 := b6.but hb (by omega); replace b8 := b8.but hb (by omega); replace b9 := b9.but hb (by omega); replace o8 := o8.but hb (by omega); replace o6 := o6.but hb (by omega); replace o9 := o9.but hb (by omega); obtain ⟨r0, r1, r2, r3⟩ := b8.out; have zr := b8.lt; have hSx : Below w.heap.size w w11 := But.to_below hb hS (by omega) hS.size; clear hS; have hS := hSx; clear hSx; clear hb o7 o7'; have st2 := True.intro))
    | (go_at_call 17; refine (eqAbs_l true _ _ 4 _ _ jl jh z _ o9.rd o6.rd (by omega)).mono ?_; rintro e w13 ⟨rfl, hb⟩; clear p0 p1 p2 p3 zp; clear r0 r1 r2 r3 zr; replace bA := (bA).below hb; replace bB := (bB).below hb; replace b6 := (b6).below hb; replace b9 := (b9).below hb; replace o6 := (o6).below hb; replace o9 := (o9).below hb; obtain ⟨p0, p1, p2, p3⟩ := b9.out; have zp := b9.lt; have hSx : Below w.heap.size w w13 := below_on (hS) hb; clear hS; have hS := hSx; clear hSx; clear hb)
    | (go_at_call 19; refine (held_o true sg 4 _ jl jh 1 9 _ o9 (by omega) (by omega) (by omega) (by omega)).mono ?_; rintro e W0' ⟨rfl, hb⟩; clear p0 p1 p2 p3 zp; replace bA := (bA).below hb; replace bB := (bB).below hb; replace b6 := (b6).below hb; replace b9 := (b9).below hb; replace o6 := (o6).below hb; replace o9 := (o9).below hb; obtain ⟨x0, x1, x2, x3⟩ := bA.out; have zx := bA.lt; obtain ⟨y0, y1, y2, y3⟩ := bB.out; have zy := bB.lt; have hSx : Below w.heap.size w W0' := below_on (hS) hb; clear hS; have hS := hSx; clear hSx; clear hb))
  obtain ⟨W0, hW0⟩ : ∃ W0, W0 = W0' := ⟨_, rfl⟩
  subst hW0
  go_cut [13] from 75 to 79 (fun p6 wx => ∃ W, W = wx ∧ ∃ g13 s13 cp13 : Nat, p6 = .pointer (some ⟨g13, 0, none⟩) ∧ OwnB wx s13 4 z ∧ wx.cell? ⟨g13, 0, none⟩ = some (.bool true) ∧ wx.cell? ⟨g13, 1, none⟩ = some (.slice (some ⟨s13, 0, none⟩) 4 cp13) ∧ wx.cell? ⟨g13, 2, none⟩ = some (.int .i64 jl) ∧ wx.cell? ⟨g13, 3, none⟩ = some (.int .i64 jh) ∧ Below W0.heap.size W0 wx)
  case first =>
    refine region_invA (fun A0 listed a w' => ∃ (l0 l1 l2 l3 l4 l5 l6 : Bool) (v0 v1 v2 v3 v4 v5 : Value) (ga gb g s cp : Nat), listed = #[l0, l1, l2, l3, l4, l5, l6] ∧ a = ⟨((((((A0.tmps.setIfInBounds 75 v0).setIfInBounds 76 v1).setIfInBounds 77 v2).setIfInBounds 78 v3).setIfInBounds 79 v4).setIfInBounds 13 v5), A0.defers⟩ ∧ Below W0.heap.size W0 w' ∧ (l0 = true → v0 = .agg #[.bool on0, .slice a0 len0 cap0, .int .i64 lo0, .int .i64 hi0]) ∧ (l1 = true → v1 = .agg #[.bool on0, .slice (some ⟨ga, 0, none⟩) len0 len0, .int .i64 lo0, .int .i64 hi0]) ∧ (l2 = true → v2 = .agg #[.bool on1, .slice a1 len1 cap1, .int .i64 lo1, .int .i64 hi1]) ∧ (l3 = true → v3 = .agg #[.bool on1, .slice (some ⟨gb, 0, none⟩) len1 len1, .int .i64 lo1, .int .i64 hi1]) ∧ (l4 = true → v4 = .agg #[.bool true, .slice (some ⟨s, 0, none⟩) 4 cp, .int .i64 jl, .int .i64 jh]) ∧ (l1 = true → l6 = false → OwnB w' ga len0 z0) ∧ (l3 = true → l6 = false → OwnB w' gb len1 z1) ∧ (l4 = true → OwnB w' s 4 z) ∧ (l5 = true → v5 = .pointer (some ⟨g, 0, none⟩) ∧ W0.heap.size ≤ g ∧ g < w'.heap.size) ∧ (l5 = true → l6 = false → Blk w' g 29 #[.bool false, .slice none 0 0, .int .i64 0, .int .i64 0]) ∧ (l6 = true → Blk w' g 29 #[.bool true, .slice (some ⟨s, 0, none⟩) 4 cp, .int .i64 jl, .int .i64 jh]) ∧ (l6 = true → l5 = true) ∧ (l4 = true → l5 = true → s ≠ g) ∧ (l6 = true → l4 = true)) (by kernel_rfl) (by kernel_rfl) ?hz ?h0 ?hs ?hend
    case hz =>
      rintro listed a w1 ⟨l0, l1, l2, l3, l4, l5, l6, v0, v1, v2, v3, v4, v5, ga, gb, g, s, cp, rfl, -⟩
      rfl
    case h0 => exact ⟨false, false, false, false, false, false, false, undef, undef, undef, undef, undef, undef, 0, 0, 0, 0, 0, rfl, (by simp only [List.setIfInBounds_toArray, List.set_cons_zero, List.set_cons_succ]), (Below.refl _ _).drew, (fun h => by cases h), (fun h => by cases h), (fun h => by cases h), (fun h => by cases h), (fun h => by cases h), (fun h => by cases h), (fun h => by cases h), (fun h => by cases h), (fun h => by cases h), (fun h => by cases h), (fun h => by cases h), (fun h => by cases h), (fun h => by cases h), (fun h => by cases h)⟩
    case hs =>
      refine AllSteps.cons ?_ <| AllSteps.cons ?_ <| AllSteps.cons ?_ <| AllSteps.cons ?_ <| AllSteps.cons ?_ <| AllSteps.cons ?_ <| AllSteps.cons ?_ <| AllSteps.nil
      · refine StepOf.plain rfl ?_
        go_light
        intro listed a w1 hI h0 ha K hK
        obtain ⟨l0, l1, l2, l3, l4, l5, l6, v0, v1, v2, v3, v4, v5, ga, gb, g, s, cp, rfl, ha', hB, k0, k1, k2, k3, k4, o1, o3, o4, k5, z5, z6, d6, hne, d4⟩ := hI
        simp only [List.setIfInBounds_toArray, List.set_cons_zero, List.set_cons_succ] at ha'
        subst ha'
        have e0 : l0 = false := h0
        clear ha h0
        subst e0
        have q0 := (hB.cell (p := ⟨w.heap.size, 0, none⟩) (blk x0)).trans x0
        have q1 := (hB.cell (p := ⟨w.heap.size, 1, none⟩) (blk x1)).trans x1
        have q2 := (hB.cell (p := ⟨w.heap.size, 2, none⟩) (blk x2)).trans x2
        have q3 := (hB.cell (p := ⟨w.heap.size, 3, none⟩) (blk x3)).trans x3
        go_simp
        refine hK.out _ _ ?_
        exact ⟨true, l1, l2, l3, l4, l5, l6, (.agg #[.bool on0, .slice a0 len0 cap0, .int .i64 lo0, .int .i64 hi0]), v1, v2, v3, v4, v5, ga, gb, g, s, cp, rfl, (by simp only [List.setIfInBounds_toArray, List.set_cons_zero, List.set_cons_succ]), (hB), (fun _ => rfl), (k1), (k2), (k3), (k4), (o1), (o3), (o4), (k5), (z5), (z6), (d6), (hne), (d4)⟩
      · refine StepOf.plain rfl ?_
        go_light
        intro listed a w1 hI h0 ha K hK
        obtain ⟨l0, l1, l2, l3, l4, l5, l6, v0, v1, v2, v3, v4, v5, ga, gb, g, s, cp, rfl, ha', hB, k0, k1, k2, k3, k4, o1, o3, o4, k5, z5, z6, d6, hne, d4⟩ := hI
        simp only [List.setIfInBounds_toArray, List.set_cons_zero, List.set_cons_succ] at ha'
        subst ha'
        have e0 : l1 = false := h0
        have g0 : l0 = true := by revert ha; cases l0 <;> simp [Region.binds]
        clear ha h0
        subst e0 g0
        obtain rfl := k0 rfl
        go_simp
        refine (toAbs_o on0 a0 len0 cap0 lo0 hi0 z0 _ (HZ0.out.below (below_on hS hB)) hL0).mono ?_
        rintro e w2 ⟨gx, rfl, hgx, ox, hb⟩
        go_wp2_with fail
        refine hK.out _ _ ?_
        exact ⟨true, true, l2, l3, l4, l5, l6, (.agg #[.bool on0, .slice a0 len0 cap0, .int .i64 lo0, .int .i64 hi0]), (.agg #[.bool on0, .slice (some ⟨gx, 0, none⟩) len0 len0, .int .i64 lo0, .int .i64 hi0]), v2, v3, v4, v5, gx, gb, g, s, cp, rfl, (by simp only [List.setIfInBounds_toArray, List.set_cons_zero, List.set_cons_succ]), (below_on hB hb), (fun _ => rfl), (fun _ => rfl), (k2), (k3), (k4), (fun _ _ => ox), (fun h i => (o3 h i).below hb), (fun h => (o4 h).below hb), (fun h => ⟨(k5 h).1, (k5 h).2.1, Nat.lt_of_lt_of_le (k5 h).2.2 hb.size⟩), (fun h i => (z5 h i).below hb), (fun h => (z6 h).below hb), (d6), (hne), (d4)⟩
      · refine StepOf.plain rfl ?_
        go_light
        intro listed a w1 hI h0 ha K hK
        obtain ⟨l0, l1, l2, l3, l4, l5, l6, v0, v1, v2, v3, v4, v5, ga, gb, g, s, cp, rfl, ha', hB, k0, k1, k2, k3, k4, o1, o3, o4, k5, z5, z6, d6, hne, d4⟩ := hI
        simp only [List.setIfInBounds_toArray, List.set_cons_zero, List.set_cons_succ] at ha'
        subst ha'
        have e0 : l2 = false := h0
        clear ha h0
        subst e0
        have q0 := (hB.cell (p := ⟨w.heap.size + 1, 0, none⟩) (blk y0)).trans y0
        have q1 := (hB.cell (p := ⟨w.heap.size + 1, 1, none⟩) (blk y1)).trans y1
        have q2 := (hB.cell (p := ⟨w.heap.size + 1, 2, none⟩) (blk y2)).trans y2
        have q3 := (hB.cell (p := ⟨w.heap.size + 1, 3, none⟩) (blk y3)).trans y3
        go_simp
        refine hK.out _ _ ?_
        exact ⟨l0, l1, true, l3, l4, l5, l6, v0, v1, (.agg #[.bool on1, .slice a1 len1 cap1, .int .i64 lo1, .int .i64 hi1]), v3, v4, v5, ga, gb, g, s, cp, rfl, (by simp only [List.setIfInBounds_toArray, List.set_cons_zero, List.set_cons_succ]), (hB), (k0), (k1), (fun _ => rfl), (k3), (k4), (o1), (o3), (o4), (k5), (z5), (z6), (d6), (hne), (d4)⟩
      · refine StepOf.plain rfl ?_
        go_light
        intro listed a w1 hI h0 ha K hK
        obtain ⟨l0, l1, l2, l3, l4, l5, l6, v0, v1, v2, v3, v4, v5, ga, gb, g, s, cp, rfl, ha', hB, k0, k1, k2, k3, k4, o1, o3, o4, k5, z5, z6, d6, hne, d4⟩ := hI
        simp only [List.setIfInBounds_toArray, List.set_cons_zero, List.set_cons_succ] at ha'
        subst ha'
        have e0 : l3 = false := h0
        have g2 : l2 = true := by revert ha; cases l2 <;> simp [Region.binds]
        clear ha h0
        subst e0 g2
        obtain rfl := k2 rfl
        go_simp
        refine (toAbs_o on1 a1 len1 cap1 lo1 hi1 z1 _ (HZ1.out.below (below_on hS hB)) hL1).mono ?_
        rintro e w2 ⟨gx, rfl, hgx, ox, hb⟩
        go_wp2_with fail
        refine hK.out _ _ ?_
        exact ⟨l0, l1, true, true, l4, l5, l6, v0, v1, (.agg #[.bool on1, .slice a1 len1 cap1, .int .i64 lo1, .int .i64 hi1]), (.agg #[.bool on1, .slice (some ⟨gx, 0, none⟩) len1 len1, .int .i64 lo1, .int .i64 hi1]), v4, v5, ga, gx, g, s, cp, rfl, (by simp only [List.setIfInBounds_toArray, List.set_cons_zero, List.set_cons_succ]), (below_on hB hb), (k0), (k1), (fun _ => rfl), (fun _ => rfl), (k4), (fun h i => (o1 h i).below hb), (fun _ _ => ox), (fun h => (o4 h).below hb), (fun h => ⟨(k5 h).1, (k5 h).2.1, Nat.lt_of_lt_of_le (k5 h).2.2 hb.size⟩), (fun h i => (z5 h i).below hb), (fun h => (z6 h).below hb), (d6), (hne), (d4)⟩
      · refine StepOf.plain rfl ?_
        go_light
        intro listed a w1 hI h0 ha K hK
        obtain ⟨l0, l1, l2, l3, l4, l5, l6, v0, v1, v2, v3, v4, v5, ga, gb, g, s, cp, rfl, ha', hB, k0, k1, k2, k3, k4, o1, o3, o4, k5, z5, z6, d6, hne, d4⟩ := hI
        simp only [List.setIfInBounds_toArray, List.set_cons_zero, List.set_cons_succ] at ha'
        subst ha'
        have e0 : l4 = false := h0
        have g1 : l1 = true := by revert ha; cases l1 <;> simp [Region.binds]
        have g3 : l3 = true := by revert ha; cases l3 <;> simp [Region.binds]
        clear ha h0
        subst e0 g1 g3
        obtain rfl := k1 rfl
        obtain rfl := k3 rfl
        have l6f : l6 = false := by cases l6; rfl; exact absurd (d4 rfl) (by simp)
        subst l6f
        go_simp
        have P1 := o1 rfl rfl
        have P3 := o3 rfl rfl
        have P5 := fun h => z5 h rfl
        clear o1 o3 z5
        refine (HI.out _ ga gb P1.rd P3.rd).mono ?_
        rintro e w2 ⟨sg, cx, rfl, hsg, ox, hb⟩
        go_wp2_with fail
        refine hK.out _ _ ?_
        exact ⟨l0, true, l2, true, true, l5, false, v0, (.agg #[.bool on0, .slice (some ⟨ga, 0, none⟩) len0 len0, .int .i64 lo0, .int .i64 hi0]), v2, (.agg #[.bool on1, .slice (some ⟨gb, 0, none⟩) len1 len1, .int .i64 lo1, .int .i64 hi1]), (.agg #[.bool true, .slice (some ⟨sg, 0, none⟩) 4 cx, .int .i64 jl, .int .i64 jh]), v5, ga, gb, g, sg, cx, rfl, (by simp only [List.setIfInBounds_toArray, List.set_cons_zero, List.set_cons_succ]), (below_on hB hb), (k0), (fun _ => rfl), (k2), (fun _ => rfl), (fun _ => rfl), (fun _ _ => P1.below hb), (fun _ _ => P3.below hb), (fun _ => ox), (fun h => ⟨(k5 h).1, (k5 h).2.1, Nat.lt_of_lt_of_le (k5 h).2.2 hb.size⟩), (fun h _ => (P5 h).below hb), (fun h => by cases h), (fun h => by cases h), (fun _ h => by have := (k5 h).2.2; omega), (fun h => by cases h)⟩
      · refine StepOf.plain rfl ?_
        go_light
        intro listed a w1 hI h0 ha K hK
        obtain ⟨l0, l1, l2, l3, l4, l5, l6, v0, v1, v2, v3, v4, v5, ga, gb, g, s, cp, rfl, ha', hB, k0, k1, k2, k3, k4, o1, o3, o4, k5, z5, z6, d6, hne, d4⟩ := hI
        simp only [List.setIfInBounds_toArray, List.set_cons_zero, List.set_cons_succ] at ha'
        subst ha'
        have e0 : l5 = false := h0
        clear ha h0
        subst e0
        have l6f : l6 = false := by cases l6; rfl; exact absurd (d6 rfl) (by simp)
        subst l6f
        go_simp
        refine hK.out _ _ ?_
        exact ⟨l0, l1, l2, l3, l4, true, false, v0, v1, v2, v3, v4, (.pointer (some ⟨w1.heap.size, 0, none⟩)), ga, gb, w1.heap.size, s, cp, rfl, (by simp only [List.setIfInBounds_toArray, List.set_cons_zero, List.set_cons_succ]), (hB.alloc hB.size _), (k0), (k1), (k2), (k3), (k4), (fun h i => (o1 h i).alloc _), (fun h i => (o3 h i).alloc _), (fun h => (o4 h).alloc _), (fun _ => ⟨rfl, hB.size, by simp⟩), (fun _ _ => Blk.new _ _ _), (fun h => by cases h), (fun h => by cases h), (fun h _ => by have := (o4 h).lt; omega), (fun h => by cases h)⟩
      · refine StepOf.plain rfl ?_
        go_light
        intro listed a w1 hI h0 ha K hK
        obtain ⟨l0, l1, l2, l3, l4, l5, l6, v0, v1, v2, v3, v4, v5, ga, gb, g, s, cp, rfl, ha', hB, k0, k1, k2, k3, k4, o1, o3, o4, k5, z5, z6, d6, hne, d4⟩ := hI
        simp only [List.setIfInBounds_toArray, List.set_cons_zero, List.set_cons_succ] at ha'
        subst ha'
        have e0 : l6 = false := h0
        have g4 : l4 = true := by revert ha; cases l4 <;> simp [Region.binds]
        have g5 : l5 = true := by revert ha; cases l5 <;> simp [Region.binds]
        clear ha h0
        subst e0 g4 g5
        obtain rfl := k4 rfl
        obtain ⟨rfl, m5, n5⟩ := k5 rfl
        have hz := z5 rfl rfl
        obtain ⟨q0, q1, q2, q3⟩ := hz.four
        obtain ⟨f0, f1, f2, f3⟩ := hz.free
        have hsg := hne rfl rfl
        go_simp
        refine hK.out _ _ ?_
        exact ⟨l0, l1, l2, l3, true, true, true, v0, v1, v2, v3, (.agg #[.bool true, .slice (some ⟨s, 0, none⟩) 4 cp, .int .i64 jl, .int .i64 jh]), (.pointer (some ⟨g, 0, none⟩)), ga, gb, g, s, cp, rfl, (by simp only [List.setIfInBounds_toArray, List.set_cons_zero, List.set_cons_succ]), ((((hB.setCell m5 _).setCell m5 _).setCell m5 _).setCell m5 _), (k0), (k1), (k2), (k3), (fun _ => rfl), (fun _ h => by cases h), (fun _ h => by cases h), (fun _ => ((((o4 rfl).far hsg _).far hsg _).far hsg _).far hsg _), (fun _ => ⟨rfl, m5, by simpa only [World.size_setCell] using n5⟩), (fun _ h => by cases h), (fun _ => (((hz.set_ 0 _).set_ 1 _).set_ 2 _).set_ 3 _), (fun _ => rfl), (fun _ _ => hsg), (fun _ => rfl)⟩
    case hend =>
      intro listed a w1 hall hI
      obtain ⟨l0, l1, l2, l3, l4, l5, l6, v0, v1, v2, v3, v4, v5, ga, gb, g, s, cp, rfl, ha', hB, k0, k1, k2, k3, k4, o1, o3, o4, k5, z5, z6, d6, hne, d4⟩ := hI
      simp only [List.setIfInBounds_toArray, List.set_cons_zero, List.set_cons_succ] at ha'
      subst ha'
      have g0 : l0 = true := hall 0
      have g1 : l1 = true := hall 1
      have g2 : l2 = true := hall 2
      have g3 : l3 = true := hall 3
      have g4 : l4 = true := hall 4
      have g5 : l5 = true := hall 5
      have g6 : l6 = true := hall 6
      subst g0 g1 g2 g3 g4 g5 g6
      obtain rfl := k0 rfl
      obtain rfl := k1 rfl
      obtain rfl := k2 rfl
      obtain rfl := k3 rfl
      obtain rfl := k4 rfl
      obtain ⟨rfl, m5, n5⟩ := k5 rfl
      have kz := z6 rfl
      obtain ⟨q0, q1, q2, q3⟩ := kz.four
      have oo := o4 rfl
      clear hall z5 z6 o1 o3 o4 k0 k1 k2 k3 k4 k5 d6 hne d4 kz
      go_wp2_with fail
      go_meet
      exact ⟨_, rfl, _, _, _, rfl, oo, q0, q1, q2, q3, hB⟩
  case rest =>
  obtain ⟨W1, rfl, g13, s13, cp13, rfl, o13, q0, q1, q2, q3, hb⟩ := hcut
  clear x0 x1 x2 x3 zx
  clear y0 y1 y2 y3 zy
  replace b6 := (b6).below hb
  replace b9 := (b9).below hb
  replace o6 := (o6).below hb
  replace o9 := (o9).below hb
  obtain ⟨r0, r1, r2, r3⟩ := b6.out
  have zr := b6.lt
  have zq := blk q0
  have hSx : Below w.heap.size w W1 := below_on (hS) hb
  clear hS
  have hS := hSx
  clear hSx
  clear hb
  go_wp2_with (first
    | (go_at_call 17; refine (eqAbs_l true _ _ 4 _ _ jl jh z _ o13.rd o6.rd (by omega)).mono ?_; rintro e w16 ⟨rfl, hb⟩; clear q0 q1 q2 q3 zq; clear r0 r1 r2 r3 zr; replace b9 := (b9).below hb; replace o6 := (o6).below hb; replace o9 := (o9).below hb; obtain ⟨p0, p1, p2, p3⟩ := b9.out; have zp := b9.lt; have hSx : Below w.heap.size w w16 := below_on (hS) hb; clear hS; have hS := hSx; clear hSx; clear hb)
    | (go_at_call 19; refine (held_o true sg 4 _ jl jh 1 9 _ o9 (by omega) (by omega) (by omega) (by omega)).mono ?_; rintro e w17 ⟨rfl, hb⟩; have hSx : Below w.heap.size w w17 := below_on (hS) hb; clear hS; have hS := hSx; clear hSx; clear hb))
  all_goals (go_ret; exact ⟨rfl, hS⟩)
set_option maxRecDepth 100000 in
set_option maxHeartbeats 16000000 in
theorem walk (on0 : Bool) (a0 : Option Addr) (len0 cap0 : Nat) (lo0 hi0 : Int) (z0 : List (Int × Int)) (on1 : Bool) (a1 : Option Addr) (len1 cap1 : Nat) (lo1 hi1 : Int) (z1 : List (Int × Int)) (w : World) (hz0 : RdI w a0 len0 z0) (hm0 : len0 ≤ maxLen) (hz1 : RdI w a1 len1 z1) (hm1 : len1 ≤ maxLen) :
    Calls Try.prog 5 #[.agg #[.bool on0, .slice a0 len0 cap0, .int .i64 lo0, .int .i64 hi0], .agg #[.bool on1, .slice a1 len1 cap1, .int .i64 lo1, .int .i64 hi1]] w fun e w' => e = .returned (.bool true) ∧ Below w.heap.size w w' := by
  by_cases hL0 : len0 ≤ 1048576
  · by_cases hl : (len0 : Int) + len1 ≤ 1048576
    · have hL1 : len1 ≤ 1048576 := by omega
      have AT : ∀ g len : Nat, AtHead (some ⟨g, 0, none⟩) len len := fun g len => ⟨Nat.le_refl _, .inr ⟨g, rfl⟩⟩
      by_cases h0 : absOk on0 z0 (lo0, hi0) = true
      · by_cases h1 : absOk on1 z1 (lo1, hi1) = true
        · cases on0 <;> cases on1
          · exact walkE false a0 len0 cap0 lo0 hi0 z0 false a1 len1 cap1 lo1 hi1 z1 w hz0 hm0 hz1 hm1 hL0 hl (fun W ga gb r0 r1 => absWide_s2 _ len0 len0 lo0 hi0 z0 _ len1 len1 lo1 hi1 z1 W r0 hL0 r1 hL1 h0 h1) (fun W ga gb r0 r1 => absWide_i2 _ len0 len0 lo0 hi0 z0 _ len1 len1 lo1 hi1 z1 W r0 hL0 r1 hL1 (AT _ _) (AT _ _) h0 h1)
          · exact walkF false a0 len0 cap0 lo0 hi0 z0 true a1 len1 cap1 lo1 hi1 z1 w hz0 hm0 hz1 hm1 hL0 hl lo1 hi1 z1 (fun W ga gb r0 r1 => absWide_s3 _ len0 len0 lo0 hi0 z0 _ len1 len1 lo1 hi1 z1 W r0 hL0 r1 hL1 (AT _ _) (AT _ _) h0 h1) (fun W ga gb r0 r1 => absWide_i3 _ len0 len0 lo0 hi0 z0 _ len1 len1 lo1 hi1 z1 W r0 hL0 r1 hL1 (AT _ _) (AT _ _) h0 h1)
          · exact walkF true a0 len0 cap0 lo0 hi0 z0 false a1 len1 cap1 lo1 hi1 z1 w hz0 hm0 hz1 hm1 hL0 hl lo0 hi0 z0 (fun W ga gb r0 r1 => absWide_s4 _ len0 len0 lo0 hi0 z0 _ len1 len1 lo1 hi1 z1 W r0 hL0 r1 hL1 (AT _ _) (AT _ _) h0 h1) (fun W ga gb r0 r1 => absWide_i4 _ len0 len0 lo0 hi0 z0 _ len1 len1 lo1 hi1 z1 W r0 hL0 r1 hL1 (AT _ _) (AT _ _) h0 h1)
          · obtain ⟨⟨jl, jh⟩, hj⟩ : ∃ r, wideI (lo0, hi0) (lo1, hi1) = r := ⟨_, rfl⟩
            exact walkF true a0 len0 cap0 lo0 hi0 z0 true a1 len1 cap1 lo1 hi1 z1 w hz0 hm0 hz1 hm1 hL0 hl jl jh (eachWide z0 z1) (fun W ga gb r0 r1 => absWide_s5 _ len0 len0 lo0 hi0 z0 _ len1 len1 lo1 hi1 z1 W r0 hL0 r1 hL1 (AT _ _) (AT _ _) h0 h1 jl jh hj) (fun W ga gb r0 r1 => absWide_i5 _ len0 len0 lo0 hi0 z0 _ len1 len1 lo1 hi1 z1 W r0 hL0 r1 hL1 (AT _ _) (AT _ _) h0 h1 jl jh hj)
        · have h1' : absOk on1 z1 (lo1, hi1) = false := by simpa using h1
          exact walkE on0 a0 len0 cap0 lo0 hi0 z0 on1 a1 len1 cap1 lo1 hi1 z1 w hz0 hm0 hz1 hm1 hL0 hl (fun W ga gb r0 r1 => absWide_s1 on0 _ len0 len0 lo0 hi0 z0 on1 _ len1 len1 lo1 hi1 z1 W r0 hL0 r1 hL1 h0 h1') (fun W ga gb r0 r1 => absWide_i1 on0 _ len0 len0 lo0 hi0 z0 on1 _ len1 len1 lo1 hi1 z1 W r0 hL0 r1 hL1 (AT _ _) (AT _ _) h0 h1')
      · have h0' : absOk on0 z0 (lo0, hi0) = false := by simpa using h0
        exact walkE on0 a0 len0 cap0 lo0 hi0 z0 on1 a1 len1 cap1 lo1 hi1 z1 w hz0 hm0 hz1 hm1 hL0 hl (fun W ga gb r0 r1 => absWide_s0 on0 _ len0 len0 lo0 hi0 z0 on1 _ len1 len1 lo1 hi1 z1 W r0 hL0 r1 hL1 h0') (fun W ga gb r0 r1 => absWide_i0 on0 _ len0 len0 lo0 hi0 z0 on1 _ len1 len1 lo1 hi1 z1 W r0 hL0 r1 hL1 (AT _ _) (AT _ _) _ h0' rfl)
    · obtain ⟨n1, hn1, hp1⟩ : ∃ n1 : Int, n1 = 1048576 - len0 ∧ 0 ≤ n1 := ⟨_, rfl, by omega⟩
      have hq1 : ¬ n1 < 0 := by omega
      have hu1 : n1 ≤ 1048576 := by omega
      have hL1 : n1 < (len1 : Int) := by omega
      have HN1 := Lib.hid hn1
      clear hn1 hl
      go_enter Try.func5, Try.ntmps5
      go_wp2_with (go_at_call 13; first | (have _hk := hS; refine (szAbs_no _ _ _ _ _ _ n1 hp1 (by omega) (by omega) hm1 _).mono ?_; rintro e w2 ⟨rfl, hb⟩; have hSx : Below w.heap.size w w2 := below_on (hS) hb; clear hS; have hS := hSx; clear hSx; clear hb) | (refine (szAbs_ok _ _ _ _ _ _ _ n1 HN1.out hp1 (by omega) _).mono ?_; rintro e w1 ⟨rfl, hb⟩; have bA : Box w1 w.heap.size (.bool on0) (.slice a0 len0 cap0) (.int .i64 lo0) (.int .i64 hi0) := Box.below ((Box.new_at rfl).alloc _) hb; have bB : Box w1 (w.heap.size + 1) (.bool on1) (.slice a1 len1 cap1) (.int .i64 lo1) (.int .i64 hi1) := Box.below (Box.new_at (by simp only [World.size_alloc])) hb; obtain ⟨x0, x1, x2, x3⟩ := bA.out; have zx := bA.lt; obtain ⟨y0, y1, y2, y3⟩ := bB.out; have zy := bB.lt; have hS : Below w.heap.size w w1 := below_on (((Below.refl w.heap.size w).alloc (Nat.le_refl _) _).alloc (by simp only [World.size_alloc]; omega) _) hb; clear hb))
      all_goals (go_ret; exact ⟨rfl, hS⟩)
  · go_enter Try.func5, Try.ntmps5
    go_wp2_with (go_at_call 13; refine (szAbs_no _ _ _ _ _ _ _ (by omega) (by omega) (by omega) hm0 _).mono ?_; rintro e w1 ⟨rfl, hb⟩; have hS := below_on (((Below.refl w.heap.size w).alloc (Nat.le_refl _) _).alloc (by simp only [World.size_alloc]; omega) _) hb; clear hb)
    all_goals (go_ret; exact ⟨rfl, hS⟩)
/-! ### The row, off the walk -/
set_option maxRecDepth 100000 in
theorem lifted (os : Os) (started : os.Started) (H : Type) (enc : TypeId × Value → H) :
    ReturnsInHanded {} Try.checked os 5 .any (Rows.fnExactAbsWideSpec.pre6 enc Try.prog Try.f5 Rows.fnExactAbsWideRow.domain false) (Rows.fnExactAbsWideSpec.post enc Try.prog Try.f5 false true false false) := by
  refine returnsInHanded_of_change (C := Try.checked) own started (by kernel_rfl) Try.func5
    (ChangeSpec.witness6 (enc := enc) (C := Try.checked) false ⟨#[], #[.agg #[.bool false, .slice none 0 0, .int .i64 0, .int .i64 0], .agg #[.bool false, .slice none 0 0, .int .i64 0, .int .i64 0]], []⟩ 8 (by kernel_rfl) (by kernel_rfl) (by kernel_rfl) (by kernel_rfl)) ?_
  intro W base args ds gs before hval0 hW hcnd _
  have hval : ∀ (j : Nat) t v, Try.f5.params[j]? = some t → args[j]? = some v → Value.okWide Try.prog W .any base t v := hval0
  have hW' := hW
  obtain ⟨p, q, hA0, hV, rfl, hfz, hnd⟩ := hW
  have hA : DataW.TrodAll enc Try.prog W 0 (fun _ => true) true Try.f5.params.toList args.toList ds p := hA0
  rw [Try.params5] at hA hval
  obtain ⟨v0, vs0, d0, ds0, p0, q0, hargs, rfl, rfl, h0, r0⟩ := trodAll_cons hA
  obtain ⟨v1, vs1, d1, ds1, p1, q1, rfl, rfl, rfl, h1, r1⟩ := trodAll_cons r0
  obtain ⟨rfl, rfl, rfl⟩ := trodAll_nil r1
  obtain rfl : args = #[v0, v1] := by cases args; simp_all
  obtain ⟨rfl, rfl⟩ := trodVars_none hV
  have k0 := h0
  have lt0 : ∀ x ∈ p0, x.block < W.heap.size := by obtain ⟨m, hm⟩ := k0; exact DataW.trod_lt m _ _ _ hm
  obtain ⟨on0, a0, len0, cap0, lo0, hi0, z0, rfl, wz0, wm0⟩ := open_abs (hval 0 41 v0 rfl rfl) h0
  have k1 := h1
  have lt1 : ∀ x ∈ p1, x.block < W.heap.size := by obtain ⟨m, hm⟩ := k1; exact DataW.trod_lt m _ _ _ hm
  obtain ⟨on1, a1, len1, cap1, lo1, hi1, z1, rfl, wz1, wm1⟩ := open_abs (hval 1 41 v1 rfl rfl) h1
  clear hA0 hval0
  refine (walk on0 a0 len0 cap0 lo0 hi0 z0 on1 a1 len1 cap1 lo1 hi1 z1 W wz0 wm0 wz1 wm1).mono fun e W' ⟨he, bel⟩ => ?_
  subst he
  exact ⟨_, rfl, _, _, _, [], _, [], hW', trodAll_mk1 (shut_bool Try.underlying4 _), (trodAll_cons_mk (Below.trod laidOut (by kernel_rfl) (of_decide_eq_true (by kernel_rfl)) k0 bel lt0) (trodAll_cons_mk (Below.trod laidOut (by kernel_rfl) (of_decide_eq_true (by kernel_rfl)) k1 bel lt1) trodAll_mk0)), rfl, bel.frame _, fun h => by cases h⟩

theorem over : Rows.fnExactAbsWideRow.holds Try.pinned (OpenSpec.ofChange Rows.fnExactAbsWideSpec) :=
  OpenClaim.holds_of_wide 5 Try.f5 rfl rfl rfl rfl rfl rfl rfl ⟨rfl, rfl, rfl, rfl, rfl⟩ rfl rfl rfl rfl rfl (by kernel_rfl) Try.func5 (by kernel_rfl)
    (of_decide_eq_true (by kernel_rfl)) (by unfold Func.isWrapper; rw [if_neg (of_decide_eq_false (by kernel_rfl))]; exact ⟨rfl, rfl⟩)
    (fun os started H enc _ => lifted os started H enc)

/-- The given statement. -/
theorem proved : Rows.FnExactAbsWideSaid := over
#print axioms proved
end Go.Proofs.Ytdpooiiacdfpkaa.fnExactAbsWide
