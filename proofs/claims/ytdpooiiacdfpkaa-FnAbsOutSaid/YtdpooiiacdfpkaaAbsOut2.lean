/-
  AbsOut: the program's, by contract. No conditions but those that each theorem says. (Printed by wip/genabsout.py.)
-/
import Derived.Test.YtdpooiiacdfpkaaAbsOut
namespace Go.Proofs.Ytdpooiiacdfpkaa
set_option linter.unusedSimpArgs false
set_option linter.unusedVariables false
open Go.ChangeShapes Go.WideShapes Go.ChangeAt Go.RowKit Go.Sort

set_option maxRecDepth 100000 in
set_option maxHeartbeats 8000000 in
theorem absOut_i2 (i0 i1 i2 i3 i4 i5 i6 i7 : Int) (on : Bool) (a : Option Addr) (len cap : Nat) (lo hi : Int) (z : List (Int × Int)) (w : World) (hz : RdI w a len z) (hl : len ≤ 1048576) (ha : AtHead a len cap) (h0 : absOk on z (lo, hi) = false) :
    Calls Try.prog 9 #[.agg #[.int .i64 i0, .int .i64 i1, .int .i64 i2, .int .i64 i3, .int .i64 i4, .int .i64 i5, .int .i64 i6, .int .i64 i7], .agg #[.bool on, .slice a len cap, .int .i64 lo, .int .i64 hi]] w fun e w' => e = .returned (.agg #[.bool false, .int .i64 0, .int .i64 0]) ∧ Below w.heap.size w w' := by
  have HZ := Lib.hid hz
  clear hz
  have HA := Lib.hid ha
  clear ha
  have H0 := Lib.hid h0
  clear h0
  go_enter Try.func9, Try.ntmps9
  go_wp2_with (go_at_call 31; refine (rs_any H0.out _ (HZ.out.below ((((Below.refl w.heap.size w).alloc (Nat.le_refl _) _).alloc (by simp only [World.size_alloc]; omega) _).alloc (by simp only [World.size_alloc]; omega) _)) hl HA.out).mono ?_; rintro e w1 ⟨p, rfl, hb⟩; have c0 : w1.cell? ⟨w.heap.size, 0, none⟩ = some (Value.int .i64 i0) := (hb.cell (p := ⟨w.heap.size, 0, none⟩) (by simp only [World.size_alloc]; omega)).trans (by simp [go_sem]); have c2 : w1.cell? ⟨w.heap.size, 2, none⟩ = some (Value.int .i64 i2) := (hb.cell (p := ⟨w.heap.size, 2, none⟩) (by simp only [World.size_alloc]; omega)).trans (by simp [go_sem]); have d0 : w1.cell? ⟨w.heap.size + 1, 0, none⟩ = some (Value.bool on) := (hb.cell (p := ⟨w.heap.size + 1, 0, none⟩) (by simp only [World.size_alloc]; omega)).trans (by simp [go_sem]); have d1 : w1.cell? ⟨w.heap.size + 1, 1, none⟩ = some (Value.slice a len cap) := (hb.cell (p := ⟨w.heap.size + 1, 1, none⟩) (by simp only [World.size_alloc]; omega)).trans (by simp [go_sem]); have r0 : w1.cell? ⟨w.heap.size + 1 + 1, 0, none⟩ = some (Value.bool false) := (hb.cell (p := ⟨w.heap.size + 1 + 1, 0, none⟩) (by simp only [World.size_alloc]; omega)).trans (by simp [go_sem]); have r1 : w1.cell? ⟨w.heap.size + 1 + 1, 1, none⟩ = some (Value.int .i64 0) := (hb.cell (p := ⟨w.heap.size + 1 + 1, 1, none⟩) (by simp only [World.size_alloc]; omega)).trans (by simp [go_sem]); have r2 : w1.cell? ⟨w.heap.size + 1 + 1, 2, none⟩ = some (Value.int .i64 0) := (hb.cell (p := ⟨w.heap.size + 1 + 1, 2, none⟩) (by simp only [World.size_alloc]; omega)).trans (by simp [go_sem]); have f0 : w1.frozen? ⟨w.heap.size + 1 + 1, 0, none⟩ = false := (hb.frozen (p := ⟨w.heap.size + 1 + 1, 0, none⟩) (by simp only [World.size_alloc]; omega)).trans (by simp [go_sem]); have f1 : w1.frozen? ⟨w.heap.size + 1 + 1, 1, none⟩ = false := (hb.frozen (p := ⟨w.heap.size + 1 + 1, 1, none⟩) (by simp only [World.size_alloc]; omega)).trans (by simp [go_sem]); have f2 : w1.frozen? ⟨w.heap.size + 1 + 1, 2, none⟩ = false := (hb.frozen (p := ⟨w.heap.size + 1 + 1, 2, none⟩) (by simp only [World.size_alloc]; omega)).trans (by simp [go_sem]); have hS : Below w.heap.size w w1 := below_on ((((Below.refl w.heap.size w).alloc (Nat.le_refl _) _).alloc (by simp only [World.size_alloc]; omega) _).alloc (by simp only [World.size_alloc]; omega) _) hb; clear hb; have zr : w.heap.size + 1 + 1 < w1.heap.size := blk r0)
  all_goals refine bodyPost_ret (by simp [results, Try.results9, go_sem, *]; try rfl) rfl ?_
  all_goals exact ⟨rfl, by first | go_grown | (repeat' (first | exact hS | refine Below.setCell ?_ (by simp only []; omega) _ | refine Below.drew ?_))⟩
set_option maxRecDepth 100000 in
set_option maxHeartbeats 8000000 in
theorem absOut_i3 (i0 i1 i2 i3 i4 i5 i6 i7 : Int) (a : Option Addr) (len cap : Nat) (lo hi : Int) (z : List (Int × Int)) (w : World) (hz : RdI w a len z) (hl : len ≤ 1048576) (ha : AtHead a len cap) (h0 : absOk false z (lo, hi) = true) :
    Calls Try.prog 9 #[.agg #[.int .i64 i0, .int .i64 i1, .int .i64 i2, .int .i64 i3, .int .i64 i4, .int .i64 i5, .int .i64 i6, .int .i64 i7], .agg #[.bool false, .slice a len cap, .int .i64 lo, .int .i64 hi]] w fun e w' => e = .returned (.agg #[.bool false, .int .i64 0, .int .i64 0]) ∧ Below w.heap.size w w' := by
  have HZ := Lib.hid hz
  clear hz
  have HA := Lib.hid ha
  clear ha
  have H0 := Lib.hid h0
  clear h0
  go_enter Try.func9, Try.ntmps9
  go_wp2_with (go_at_call 31; refine (rs_off H0.out _ (HZ.out.below ((((Below.refl w.heap.size w).alloc (Nat.le_refl _) _).alloc (by simp only [World.size_alloc]; omega) _).alloc (by simp only [World.size_alloc]; omega) _)) hl).mono ?_; rintro e w1 ⟨rfl, hb⟩; have c0 : w1.cell? ⟨w.heap.size, 0, none⟩ = some (Value.int .i64 i0) := (hb.cell (p := ⟨w.heap.size, 0, none⟩) (by simp only [World.size_alloc]; omega)).trans (by simp [go_sem]); have c2 : w1.cell? ⟨w.heap.size, 2, none⟩ = some (Value.int .i64 i2) := (hb.cell (p := ⟨w.heap.size, 2, none⟩) (by simp only [World.size_alloc]; omega)).trans (by simp [go_sem]); have d0 : w1.cell? ⟨w.heap.size + 1, 0, none⟩ = some (Value.bool false) := (hb.cell (p := ⟨w.heap.size + 1, 0, none⟩) (by simp only [World.size_alloc]; omega)).trans (by simp [go_sem]); have d1 : w1.cell? ⟨w.heap.size + 1, 1, none⟩ = some (Value.slice a len cap) := (hb.cell (p := ⟨w.heap.size + 1, 1, none⟩) (by simp only [World.size_alloc]; omega)).trans (by simp [go_sem]); have r0 : w1.cell? ⟨w.heap.size + 1 + 1, 0, none⟩ = some (Value.bool false) := (hb.cell (p := ⟨w.heap.size + 1 + 1, 0, none⟩) (by simp only [World.size_alloc]; omega)).trans (by simp [go_sem]); have r1 : w1.cell? ⟨w.heap.size + 1 + 1, 1, none⟩ = some (Value.int .i64 0) := (hb.cell (p := ⟨w.heap.size + 1 + 1, 1, none⟩) (by simp only [World.size_alloc]; omega)).trans (by simp [go_sem]); have r2 : w1.cell? ⟨w.heap.size + 1 + 1, 2, none⟩ = some (Value.int .i64 0) := (hb.cell (p := ⟨w.heap.size + 1 + 1, 2, none⟩) (by simp only [World.size_alloc]; omega)).trans (by simp [go_sem]); have f0 : w1.frozen? ⟨w.heap.size + 1 + 1, 0, none⟩ = false := (hb.frozen (p := ⟨w.heap.size + 1 + 1, 0, none⟩) (by simp only [World.size_alloc]; omega)).trans (by simp [go_sem]); have f1 : w1.frozen? ⟨w.heap.size + 1 + 1, 1, none⟩ = false := (hb.frozen (p := ⟨w.heap.size + 1 + 1, 1, none⟩) (by simp only [World.size_alloc]; omega)).trans (by simp [go_sem]); have f2 : w1.frozen? ⟨w.heap.size + 1 + 1, 2, none⟩ = false := (hb.frozen (p := ⟨w.heap.size + 1 + 1, 2, none⟩) (by simp only [World.size_alloc]; omega)).trans (by simp [go_sem]); have hS : Below w.heap.size w w1 := below_on ((((Below.refl w.heap.size w).alloc (Nat.le_refl _) _).alloc (by simp only [World.size_alloc]; omega) _).alloc (by simp only [World.size_alloc]; omega) _) hb; clear hb; have zr : w.heap.size + 1 + 1 < w1.heap.size := blk r0)
  all_goals refine bodyPost_ret (by simp [results, Try.results9, go_sem, *]; try rfl) rfl ?_
  all_goals exact ⟨rfl, by first | go_grown | (repeat' (first | exact hS | refine Below.setCell ?_ (by simp only []; omega) _ | refine Below.drew ?_))⟩
set_option maxRecDepth 100000 in
set_option maxHeartbeats 8000000 in
theorem absOut_i0 (i0 i1 i2 i3 i4 i5 i6 i7 : Int) (a : Option Addr) (len cap : Nat) (lo hi : Int) (z : List (Int × Int)) (w : World) (hz : RdI w a len z) (hl : len ≤ 1048576) (ha : AtHead a len cap) (h0 : absOk true z (lo, hi) = true) (h1 : i0 ≠ 12) :
    Calls Try.prog 9 #[.agg #[.int .i64 i0, .int .i64 i1, .int .i64 i2, .int .i64 i3, .int .i64 i4, .int .i64 i5, .int .i64 i6, .int .i64 i7], .agg #[.bool true, .slice a len cap, .int .i64 lo, .int .i64 hi]] w fun e w' => e = .returned (.agg #[.bool false, .int .i64 0, .int .i64 0]) ∧ Below w.heap.size w w' := by
  have HZ := Lib.hid hz
  clear hz
  have HA := Lib.hid ha
  clear ha
  have H0 := Lib.hid h0
  clear h0
  have q0 : (i0 == 12) = false := by simp [h1]
  have q1 : (i0 != 12) = true := by simp [h1]
  go_enter Try.func9, Try.ntmps9
  go_wp2_with (go_at_call 31; refine (rs_on H0.out _ (HZ.out.below ((((Below.refl w.heap.size w).alloc (Nat.le_refl _) _).alloc (by simp only [World.size_alloc]; omega) _).alloc (by simp only [World.size_alloc]; omega) _)) HA.out).mono ?_; rintro e w1 ⟨g, rfl, hst, hb⟩; have c0 : w1.cell? ⟨w.heap.size, 0, none⟩ = some (Value.int .i64 i0) := (hb.cell (p := ⟨w.heap.size, 0, none⟩) (by simp only [World.size_alloc]; omega)).trans (by simp [go_sem]); have c2 : w1.cell? ⟨w.heap.size, 2, none⟩ = some (Value.int .i64 i2) := (hb.cell (p := ⟨w.heap.size, 2, none⟩) (by simp only [World.size_alloc]; omega)).trans (by simp [go_sem]); have d0 : w1.cell? ⟨w.heap.size + 1, 0, none⟩ = some (Value.bool true) := (hb.cell (p := ⟨w.heap.size + 1, 0, none⟩) (by simp only [World.size_alloc]; omega)).trans (by simp [go_sem]); have d1 : w1.cell? ⟨w.heap.size + 1, 1, none⟩ = some (Value.slice a len cap) := (hb.cell (p := ⟨w.heap.size + 1, 1, none⟩) (by simp only [World.size_alloc]; omega)).trans (by simp [go_sem]); have r0 : w1.cell? ⟨w.heap.size + 1 + 1, 0, none⟩ = some (Value.bool false) := (hb.cell (p := ⟨w.heap.size + 1 + 1, 0, none⟩) (by simp only [World.size_alloc]; omega)).trans (by simp [go_sem]); have r1 : w1.cell? ⟨w.heap.size + 1 + 1, 1, none⟩ = some (Value.int .i64 0) := (hb.cell (p := ⟨w.heap.size + 1 + 1, 1, none⟩) (by simp only [World.size_alloc]; omega)).trans (by simp [go_sem]); have r2 : w1.cell? ⟨w.heap.size + 1 + 1, 2, none⟩ = some (Value.int .i64 0) := (hb.cell (p := ⟨w.heap.size + 1 + 1, 2, none⟩) (by simp only [World.size_alloc]; omega)).trans (by simp [go_sem]); have f0 : w1.frozen? ⟨w.heap.size + 1 + 1, 0, none⟩ = false := (hb.frozen (p := ⟨w.heap.size + 1 + 1, 0, none⟩) (by simp only [World.size_alloc]; omega)).trans (by simp [go_sem]); have f1 : w1.frozen? ⟨w.heap.size + 1 + 1, 1, none⟩ = false := (hb.frozen (p := ⟨w.heap.size + 1 + 1, 1, none⟩) (by simp only [World.size_alloc]; omega)).trans (by simp [go_sem]); have f2 : w1.frozen? ⟨w.heap.size + 1 + 1, 2, none⟩ = false := (hb.frozen (p := ⟨w.heap.size + 1 + 1, 2, none⟩) (by simp only [World.size_alloc]; omega)).trans (by simp [go_sem]); have hS : Below w.heap.size w w1 := below_on ((((Below.refl w.heap.size w).alloc (Nat.le_refl _) _).alloc (by simp only [World.size_alloc]; omega) _).alloc (by simp only [World.size_alloc]; omega) _) hb; clear hb; have zr : w.heap.size + 1 + 1 < w1.heap.size := blk r0; clear hst)
  all_goals refine bodyPost_ret (by simp [results, Try.results9, go_sem, *]; try rfl) rfl ?_
  all_goals exact ⟨rfl, by first | go_grown | (repeat' (first | exact hS | refine Below.setCell ?_ (by simp only []; omega) _ | refine Below.drew ?_))⟩
set_option maxRecDepth 100000 in
set_option maxHeartbeats 8000000 in
theorem absOut_i1 (i1 i2 i3 i4 i5 i6 i7 : Int) (a : Option Addr) (len cap : Nat) (lo hi : Int) (z : List (Int × Int)) (w : World) (hz : RdI w a len z) (hl : len ≤ 1048576) (ha : AtHead a len cap) (h0 : absOk true z (lo, hi) = true) (hv : (decide (0 ≤ i2) && decide (i2 ≤ 3)) = false) :
    Calls Try.prog 9 #[.agg #[.int .i64 12, .int .i64 i1, .int .i64 i2, .int .i64 i3, .int .i64 i4, .int .i64 i5, .int .i64 i6, .int .i64 i7], .agg #[.bool true, .slice a len cap, .int .i64 lo, .int .i64 hi]] w fun e w' => e = .returned (.agg #[.bool false, .int .i64 0, .int .i64 0]) ∧ Below w.heap.size w w' := by
  have HZ := Lib.hid hz
  clear hz
  have HA := Lib.hid ha
  clear ha
  have H0 := Lib.hid h0
  clear h0
  have HV := Lib.hid hv
  clear hv
  go_enter Try.func9, Try.ntmps9
  go_wp2_with (first | (go_at_call 31; refine (rs_on H0.out _ (HZ.out.below ((((Below.refl w.heap.size w).alloc (Nat.le_refl _) _).alloc (by simp only [World.size_alloc]; omega) _).alloc (by simp only [World.size_alloc]; omega) _)) HA.out).mono ?_; rintro e w1 ⟨g, rfl, hst, hb⟩; have c0 : w1.cell? ⟨w.heap.size, 0, none⟩ = some (Value.int .i64 12) := (hb.cell (p := ⟨w.heap.size, 0, none⟩) (by simp only [World.size_alloc]; omega)).trans (by simp [go_sem]); have c2 : w1.cell? ⟨w.heap.size, 2, none⟩ = some (Value.int .i64 i2) := (hb.cell (p := ⟨w.heap.size, 2, none⟩) (by simp only [World.size_alloc]; omega)).trans (by simp [go_sem]); have d0 : w1.cell? ⟨w.heap.size + 1, 0, none⟩ = some (Value.bool true) := (hb.cell (p := ⟨w.heap.size + 1, 0, none⟩) (by simp only [World.size_alloc]; omega)).trans (by simp [go_sem]); have d1 : w1.cell? ⟨w.heap.size + 1, 1, none⟩ = some (Value.slice a len cap) := (hb.cell (p := ⟨w.heap.size + 1, 1, none⟩) (by simp only [World.size_alloc]; omega)).trans (by simp [go_sem]); have r0 : w1.cell? ⟨w.heap.size + 1 + 1, 0, none⟩ = some (Value.bool false) := (hb.cell (p := ⟨w.heap.size + 1 + 1, 0, none⟩) (by simp only [World.size_alloc]; omega)).trans (by simp [go_sem]); have r1 : w1.cell? ⟨w.heap.size + 1 + 1, 1, none⟩ = some (Value.int .i64 0) := (hb.cell (p := ⟨w.heap.size + 1 + 1, 1, none⟩) (by simp only [World.size_alloc]; omega)).trans (by simp [go_sem]); have r2 : w1.cell? ⟨w.heap.size + 1 + 1, 2, none⟩ = some (Value.int .i64 0) := (hb.cell (p := ⟨w.heap.size + 1 + 1, 2, none⟩) (by simp only [World.size_alloc]; omega)).trans (by simp [go_sem]); have f0 : w1.frozen? ⟨w.heap.size + 1 + 1, 0, none⟩ = false := (hb.frozen (p := ⟨w.heap.size + 1 + 1, 0, none⟩) (by simp only [World.size_alloc]; omega)).trans (by simp [go_sem]); have f1 : w1.frozen? ⟨w.heap.size + 1 + 1, 1, none⟩ = false := (hb.frozen (p := ⟨w.heap.size + 1 + 1, 1, none⟩) (by simp only [World.size_alloc]; omega)).trans (by simp [go_sem]); have f2 : w1.frozen? ⟨w.heap.size + 1 + 1, 2, none⟩ = false := (hb.frozen (p := ⟨w.heap.size + 1 + 1, 2, none⟩) (by simp only [World.size_alloc]; omega)).trans (by simp [go_sem]); have hS : Below w.heap.size w w1 := below_on ((((Below.refl w.heap.size w).alloc (Nat.le_refl _) _).alloc (by simp only [World.size_alloc]; omega) _).alloc (by simp only [World.size_alloc]; omega) _) hb; clear hb; have zr : w.heap.size + 1 + 1 < w1.heap.size := blk r0; clear hst) | (go_at_call 32; refine (isVar_x HV.out _).mono ?_; rintro e w' ⟨rfl, rfl⟩))
  all_goals refine bodyPost_ret (by simp [results, Try.results9, go_sem, *]; try rfl) rfl ?_
  all_goals exact ⟨rfl, by first | go_grown | (repeat' (first | exact hS | refine Below.setCell ?_ (by simp only []; omega) _ | refine Below.drew ?_))⟩
set_option maxRecDepth 100000 in
set_option maxHeartbeats 8000000 in
theorem absOut_i4 (k : Nat) (i1 i3 i4 i5 i6 i7 : Int) (a : Option Addr) (len cap : Nat) (lo hi : Int) (z : List (Int × Int)) (w : World) (hz : RdI w a len z) (hl : len ≤ 1048576) (ha : AtHead a len cap) (hk : k < 4) (h0 : absOk true z (lo, hi) = true) :
    Calls Try.prog 9 #[.agg #[.int .i64 12, .int .i64 i1, .int .i64 (k : Int), .int .i64 i3, .int .i64 i4, .int .i64 i5, .int .i64 i6, .int .i64 i7], .agg #[.bool true, .slice a len cap, .int .i64 lo, .int .i64 hi]] w fun e w' => e = .returned (.agg #[.bool true, .int .i64 (z.getD k (0, 0)).1, .int .i64 (z.getD k (0, 0)).2]) ∧ Below w.heap.size w w' := by
  have HZ := Lib.hid hz
  clear hz
  have HA := Lib.hid ha
  clear ha
  have hv : (decide (0 ≤ (k : Int)) && decide ((k : Int) ≤ 3)) = true := by simp; omega
  have j0 : (0 : Int) ≤ k := by omega
  have j1 : (k : Int) < 4 := by omega
  obtain ⟨⟨zl, zh⟩, hq⟩ : ∃ q, q = z.getD k (0, 0) := ⟨_, rfl⟩
  rw [← hq]
  have HQ := Lib.hid hq.symm
  clear hq
  have HV := Lib.hid hv
  clear hv
  have H0 := Lib.hid h0
  clear h0
  go_enter Try.func9, Try.ntmps9
  go_wp2_with (first | (go_at_call 31; refine (rs_on H0.out _ (HZ.out.below ((((Below.refl w.heap.size w).alloc (Nat.le_refl _) _).alloc (by simp only [World.size_alloc]; omega) _).alloc (by simp only [World.size_alloc]; omega) _)) HA.out).mono ?_; rintro e w1 ⟨g, rfl, hst, hb⟩; have c0 : w1.cell? ⟨w.heap.size, 0, none⟩ = some (Value.int .i64 12) := (hb.cell (p := ⟨w.heap.size, 0, none⟩) (by simp only [World.size_alloc]; omega)).trans (by simp [go_sem]); have c2 : w1.cell? ⟨w.heap.size, 2, none⟩ = some (Value.int .i64 (k : Int)) := (hb.cell (p := ⟨w.heap.size, 2, none⟩) (by simp only [World.size_alloc]; omega)).trans (by simp [go_sem]); have d0 : w1.cell? ⟨w.heap.size + 1, 0, none⟩ = some (Value.bool true) := (hb.cell (p := ⟨w.heap.size + 1, 0, none⟩) (by simp only [World.size_alloc]; omega)).trans (by simp [go_sem]); have d1 : w1.cell? ⟨w.heap.size + 1, 1, none⟩ = some (Value.slice a len cap) := (hb.cell (p := ⟨w.heap.size + 1, 1, none⟩) (by simp only [World.size_alloc]; omega)).trans (by simp [go_sem]); have r0 : w1.cell? ⟨w.heap.size + 1 + 1, 0, none⟩ = some (Value.bool false) := (hb.cell (p := ⟨w.heap.size + 1 + 1, 0, none⟩) (by simp only [World.size_alloc]; omega)).trans (by simp [go_sem]); have r1 : w1.cell? ⟨w.heap.size + 1 + 1, 1, none⟩ = some (Value.int .i64 0) := (hb.cell (p := ⟨w.heap.size + 1 + 1, 1, none⟩) (by simp only [World.size_alloc]; omega)).trans (by simp [go_sem]); have r2 : w1.cell? ⟨w.heap.size + 1 + 1, 2, none⟩ = some (Value.int .i64 0) := (hb.cell (p := ⟨w.heap.size + 1 + 1, 2, none⟩) (by simp only [World.size_alloc]; omega)).trans (by simp [go_sem]); have f0 : w1.frozen? ⟨w.heap.size + 1 + 1, 0, none⟩ = false := (hb.frozen (p := ⟨w.heap.size + 1 + 1, 0, none⟩) (by simp only [World.size_alloc]; omega)).trans (by simp [go_sem]); have f1 : w1.frozen? ⟨w.heap.size + 1 + 1, 1, none⟩ = false := (hb.frozen (p := ⟨w.heap.size + 1 + 1, 1, none⟩) (by simp only [World.size_alloc]; omega)).trans (by simp [go_sem]); have f2 : w1.frozen? ⟨w.heap.size + 1 + 1, 2, none⟩ = false := (hb.frozen (p := ⟨w.heap.size + 1 + 1, 2, none⟩) (by simp only [World.size_alloc]; omega)).trans (by simp [go_sem]); have hS : Below w.heap.size w w1 := below_on ((((Below.refl w.heap.size w).alloc (Nat.le_refl _) _).alloc (by simp only [World.size_alloc]; omega) _).alloc (by simp only [World.size_alloc]; omega) _) hb; clear hb; have zr : w.heap.size + 1 + 1 < w1.heap.size := blk r0; obtain ⟨e0, e1⟩ := hst.1 k hk; clear hst; rw [HQ.out] at e0 e1; simp only at e0 e1) | (go_at_call 32; refine (isVar_x HV.out _).mono ?_; rintro e w' ⟨rfl, rfl⟩))
  go_region
  go_wp2_with fail
  all_goals refine bodyPost_ret (by simp [results, Try.results9, go_sem, *]; try rfl) rfl ?_
  all_goals exact ⟨rfl, by first | go_grown | (repeat' (first | exact hS | refine Below.setCell ?_ (by simp only []; omega) _ | refine Below.drew ?_))⟩
set_option maxRecDepth 100000 in
set_option maxHeartbeats 8000000 in
theorem absOut_i (i0 i1 i2 i3 i4 i5 i6 i7 : Int) (on : Bool) (a : Option Addr) (len cap : Nat) (lo hi : Int) (z : List (Int × Int)) (w : World) (hz : RdI w a len z) (hl : len ≤ 1048576) (ha : AtHead a len cap) :
    Calls Try.prog 9 #[.agg #[.int .i64 i0, .int .i64 i1, .int .i64 i2, .int .i64 i3, .int .i64 i4, .int .i64 i5, .int .i64 i6, .int .i64 i7], .agg #[.bool on, .slice a len cap, .int .i64 lo, .int .i64 hi]] w fun e w' => e = .returned (.agg #[.bool (absOut i0 i2 on z (lo, hi)).1, .int .i64 (absOut i0 i2 on z (lo, hi)).2.1, .int .i64 (absOut i0 i2 on z (lo, hi)).2.2]) ∧ Below w.heap.size w w' := by
  rcases Bool.eq_false_or_eq_true (absOk on z (lo, hi)) with h0 | h0
  · cases on with
    | false =>
      rw [show absOut i0 i2 false z (lo, hi) = (false, 0, 0) by simp [absOut]]
      exact absOut_i3 i0 i1 i2 i3 i4 i5 i6 i7 a len cap lo hi z w hz hl ha h0
    | true =>
      by_cases h1 : i0 = 12
      · subst h1
        rcases Bool.eq_false_or_eq_true (decide (0 ≤ i2) && decide (i2 ≤ 3)) with hv | hv
        · rw [show absOut 12 i2 true z (lo, hi) = (true, z.getD i2.toNat (0, 0)) from if_pos ⟨rfl, hv, h0, rfl⟩]
          simp only [Bool.and_eq_true, decide_eq_true_eq] at hv
          obtain ⟨k, rfl⟩ := Int.eq_ofNat_of_zero_le hv.1
          exact absOut_i4 k i1 i3 i4 i5 i6 i7 a len cap lo hi z w hz hl ha (by omega) h0
        · rw [show absOut 12 i2 true z (lo, hi) = (false, 0, 0) from if_neg (fun h => by rw [hv] at h; exact absurd h.2.1 (by simp))]
          exact absOut_i1 i1 i2 i3 i4 i5 i6 i7 a len cap lo hi z w hz hl ha h0 hv
      · rw [show absOut i0 i2 true z (lo, hi) = (false, 0, 0) by simp [absOut, h1]]
        exact absOut_i0 i0 i1 i2 i3 i4 i5 i6 i7 a len cap lo hi z w hz hl ha h0 h1
  · rw [show absOut i0 i2 on z (lo, hi) = (false, 0, 0) by simp [absOut, h0]]
    exact absOut_i2 i0 i1 i2 i3 i4 i5 i6 i7 on a len cap lo hi z w hz hl ha h0
end Go.Proofs.Ytdpooiiacdfpkaa
