/-
  When an abstract state has numbers: the reference's AbsHas, by contract. No conditions but those that each theorem says.
-/
import Derived.Test.YthbbakmohcjblaaAbsHas
namespace Go.Proofs.Ythbbakmohcjblaa
set_option linter.unusedSimpArgs false
set_option linter.unusedVariables false
open Go.ChangeShapes Go.WideShapes Go.ChangeAt Go.RowKit Go.Sort

/-- The state has these numbers. -/
def absHas (on : Bool) (z : List (Int × Int)) (c : Int × Int) (len1 : Nat) (n1 : List Int) (len2 : Nat) (n2 : List Int) : Bool :=
  absOk on z c && on && decide (len1 = 4) && decide (len2 = 4) && ((List.range 4).all fun i => hasI (z.getD i (0, 0)) (n1.getD i 0)) && ((List.range 4).all fun i => hasI c (n2.getD i 0))
theorem has_sx {al ah n : Int} {x : Bool} (h : hasI (al, ah) n = x) (w : World) : Calls Try.prog 49 #[.agg #[.int .i64 al, .int .i64 ah], .int .i64 n] w fun e w' => e = .returned (.bool x) ∧ Below w.heap.size w w' := by
  have k := itvHas_s al ah n w
  rw [h] at k
  exact k
theorem has_ix {al ah n : Int} {x : Bool} (h : hasI (al, ah) n = x) (w : World) : Calls Try.prog 50 #[.agg #[.int .i64 al, .int .i64 ah], .int .i64 n] w fun e w' => e = .returned (.bool x) ∧ Below w.heap.size w w' := by
  have k := itvHas_i al ah n w
  rw [h] at k
  exact k
theorem all4_not {f : Nat → Bool} {k : Nat} (hk : k < 4) (h : f k = false) : (List.range 4).all f = false := by
  rw [List.all_eq_false]
  exact ⟨k, List.mem_range.2 hk, by rw [h]; simp⟩
theorem all4_yes {f : Nat → Bool} (h : ∀ k, k < 4 → f k = true) : (List.range 4).all f = true := by
  rw [List.all_eq_true]
  exact fun k hk => h k (List.mem_range.1 hk)
set_option maxRecDepth 100000 in
set_option maxHeartbeats 8000000 in
theorem absHas_s0 (on : Bool) (a : Option Addr) (len cap : Nat) (lo hi : Int) (z : List (Int × Int)) (b : Option Addr) (len1 cap1 : Nat) (n1 : List Int) (d : Option Addr) (len2 cap2 : Nat) (n2 : List Int) (w : World) (hz : RdI w a len z) (hl : len ≤ 1048576) (hb : RdN w b len1 n1) (hd : RdN w d len2 n2) (hl1 : len1 ≤ 1048576) (hl2 : len2 ≤ 1048576) (h0 : absOk on z (lo, hi) = false) :
    Calls Try.prog 28 #[.agg #[.bool on, .slice a len cap, .int .i64 lo, .int .i64 hi], .slice b len1 cap1, .slice d len2 cap2] w fun e w' => e = .returned (.bool false) ∧ Below w.heap.size w w' := by
  have HZ := Lib.hid hz
  have HB := Lib.hid hb
  have HD := Lib.hid hd
  clear hz hb hd
  have H0 := Lib.hid h0
  clear h0
  go_enter Try.func28, Try.ntmps28
  go_wp2_with (go_at_call 10; refine (absOk_sx H0.out _ (HZ.out.below ((Below.refl w.heap.size w).alloc (Nat.le_refl _) _)) hl).mono ?_; rintro e w1 ⟨rfl, hb⟩; have c0 : w1.cell? ⟨w.heap.size, 0, none⟩ = some (Value.bool on) := (hb.cell (p := ⟨w.heap.size, 0, none⟩) (by simp only [World.size_alloc, World.size_setCell, World.size_drew]; omega)).trans (by simp [go_sem, *]); have c1 : w1.cell? ⟨w.heap.size, 1, none⟩ = some (Value.slice a len cap) := (hb.cell (p := ⟨w.heap.size, 1, none⟩) (by simp only [World.size_alloc, World.size_setCell, World.size_drew]; omega)).trans (by simp [go_sem, *]); have c2 : w1.cell? ⟨w.heap.size, 2, none⟩ = some (Value.int .i64 lo) := (hb.cell (p := ⟨w.heap.size, 2, none⟩) (by simp only [World.size_alloc, World.size_setCell, World.size_drew]; omega)).trans (by simp [go_sem, *]); have c3 : w1.cell? ⟨w.heap.size, 3, none⟩ = some (Value.int .i64 hi) := (hb.cell (p := ⟨w.heap.size, 3, none⟩) (by simp only [World.size_alloc, World.size_setCell, World.size_drew]; omega)).trans (by simp [go_sem, *]); have hS : Below w.heap.size w w1 := below_on ((Below.refl w.heap.size w).alloc (Nat.le_refl _) _) hb; clear hb)
  all_goals (go_ret; exact ⟨rfl, hS⟩)
set_option maxRecDepth 100000 in
set_option maxHeartbeats 8000000 in
theorem absHas_s1 (a : Option Addr) (len cap : Nat) (lo hi : Int) (z : List (Int × Int)) (b : Option Addr) (len1 cap1 : Nat) (n1 : List Int) (d : Option Addr) (len2 cap2 : Nat) (n2 : List Int) (w : World) (hz : RdI w a len z) (hl : len ≤ 1048576) (hb : RdN w b len1 n1) (hd : RdN w d len2 n2) (hl1 : len1 ≤ 1048576) (hl2 : len2 ≤ 1048576) (h0 : absOk false z (lo, hi) = true) :
    Calls Try.prog 28 #[.agg #[.bool false, .slice a len cap, .int .i64 lo, .int .i64 hi], .slice b len1 cap1, .slice d len2 cap2] w fun e w' => e = .returned (.bool false) ∧ Below w.heap.size w w' := by
  have HZ := Lib.hid hz
  have HB := Lib.hid hb
  have HD := Lib.hid hd
  clear hz hb hd
  have H0 := Lib.hid h0
  clear h0
  go_enter Try.func28, Try.ntmps28
  go_wp2_with (go_at_call 10; refine (absOk_sx H0.out _ (HZ.out.below ((Below.refl w.heap.size w).alloc (Nat.le_refl _) _)) hl).mono ?_; rintro e w1 ⟨rfl, hb⟩; have c0 : w1.cell? ⟨w.heap.size, 0, none⟩ = some (Value.bool false) := (hb.cell (p := ⟨w.heap.size, 0, none⟩) (by simp only [World.size_alloc, World.size_setCell, World.size_drew]; omega)).trans (by simp [go_sem, *]); have c1 : w1.cell? ⟨w.heap.size, 1, none⟩ = some (Value.slice a len cap) := (hb.cell (p := ⟨w.heap.size, 1, none⟩) (by simp only [World.size_alloc, World.size_setCell, World.size_drew]; omega)).trans (by simp [go_sem, *]); have c2 : w1.cell? ⟨w.heap.size, 2, none⟩ = some (Value.int .i64 lo) := (hb.cell (p := ⟨w.heap.size, 2, none⟩) (by simp only [World.size_alloc, World.size_setCell, World.size_drew]; omega)).trans (by simp [go_sem, *]); have c3 : w1.cell? ⟨w.heap.size, 3, none⟩ = some (Value.int .i64 hi) := (hb.cell (p := ⟨w.heap.size, 3, none⟩) (by simp only [World.size_alloc, World.size_setCell, World.size_drew]; omega)).trans (by simp [go_sem, *]); have hS : Below w.heap.size w w1 := below_on ((Below.refl w.heap.size w).alloc (Nat.le_refl _) _) hb; clear hb)
  all_goals (go_ret; exact ⟨rfl, hS⟩)
set_option maxRecDepth 100000 in
set_option maxHeartbeats 8000000 in
theorem absHas_s2 (a : Option Addr) (len cap : Nat) (lo hi : Int) (z : List (Int × Int)) (b : Option Addr) (len1 cap1 : Nat) (n1 : List Int) (d : Option Addr) (len2 cap2 : Nat) (n2 : List Int) (w : World) (hz : RdI w a len z) (hl : len ≤ 1048576) (hb : RdN w b len1 n1) (hd : RdN w d len2 n2) (hl1 : len1 ≤ 1048576) (hl2 : len2 ≤ 1048576) (h0 : absOk true z (lo, hi) = true) (h1 : len1 ≠ 4) :
    Calls Try.prog 28 #[.agg #[.bool true, .slice a len cap, .int .i64 lo, .int .i64 hi], .slice b len1 cap1, .slice d len2 cap2] w fun e w' => e = .returned (.bool false) ∧ Below w.heap.size w w' := by
  have HZ := Lib.hid hz
  have HB := Lib.hid hb
  have HD := Lib.hid hd
  clear hz hb hd
  have H0 := Lib.hid h0
  clear h0
  have h1i : ((len1 : Int) == 4) = false := by rw [beq_eq_false_iff_ne]; omega
  have h1j : ((len1 : Int) != 4) = true := by simp [bne, h1i]
  have h1k : ¬ (len1 : Int) = 4 := by omega
  have h1l : ¬ len1 = 4 := h1
  clear h1
  go_enter Try.func28, Try.ntmps28
  go_wp2_with (go_at_call 10; refine (absOk_sx H0.out _ (HZ.out.below ((Below.refl w.heap.size w).alloc (Nat.le_refl _) _)) hl).mono ?_; rintro e w1 ⟨rfl, hb⟩; have c0 : w1.cell? ⟨w.heap.size, 0, none⟩ = some (Value.bool true) := (hb.cell (p := ⟨w.heap.size, 0, none⟩) (by simp only [World.size_alloc, World.size_setCell, World.size_drew]; omega)).trans (by simp [go_sem, *]); have c1 : w1.cell? ⟨w.heap.size, 1, none⟩ = some (Value.slice a len cap) := (hb.cell (p := ⟨w.heap.size, 1, none⟩) (by simp only [World.size_alloc, World.size_setCell, World.size_drew]; omega)).trans (by simp [go_sem, *]); have c2 : w1.cell? ⟨w.heap.size, 2, none⟩ = some (Value.int .i64 lo) := (hb.cell (p := ⟨w.heap.size, 2, none⟩) (by simp only [World.size_alloc, World.size_setCell, World.size_drew]; omega)).trans (by simp [go_sem, *]); have c3 : w1.cell? ⟨w.heap.size, 3, none⟩ = some (Value.int .i64 hi) := (hb.cell (p := ⟨w.heap.size, 3, none⟩) (by simp only [World.size_alloc, World.size_setCell, World.size_drew]; omega)).trans (by simp [go_sem, *]); have hS : Below w.heap.size w w1 := below_on ((Below.refl w.heap.size w).alloc (Nat.le_refl _) _) hb; clear hb)
  all_goals (go_ret; exact ⟨rfl, hS⟩)
set_option maxRecDepth 100000 in
set_option maxHeartbeats 8000000 in
theorem absHas_s3 (a : Option Addr) (len cap : Nat) (lo hi : Int) (z : List (Int × Int)) (b : Option Addr) (len1 cap1 : Nat) (n1 : List Int) (d : Option Addr) (len2 cap2 : Nat) (n2 : List Int) (w : World) (hz : RdI w a len z) (hl : len ≤ 1048576) (hb : RdN w b len1 n1) (hd : RdN w d len2 n2) (hl1 : len1 ≤ 1048576) (hl2 : len2 ≤ 1048576) (h0 : absOk true z (lo, hi) = true) (h1 : len1 = 4) (h2 : len2 ≠ 4) :
    Calls Try.prog 28 #[.agg #[.bool true, .slice a len cap, .int .i64 lo, .int .i64 hi], .slice b len1 cap1, .slice d len2 cap2] w fun e w' => e = .returned (.bool false) ∧ Below w.heap.size w w' := by
  have HZ := Lib.hid hz
  have HB := Lib.hid hb
  have HD := Lib.hid hd
  clear hz hb hd
  subst h1
  have H0 := Lib.hid h0
  clear h0
  have h2i : ((len2 : Int) == 4) = false := by rw [beq_eq_false_iff_ne]; omega
  have h2j : ((len2 : Int) != 4) = true := by simp [bne, h2i]
  have h2k : ¬ (len2 : Int) = 4 := by omega
  have h2l : ¬ len2 = 4 := h2
  clear h2
  go_enter Try.func28, Try.ntmps28
  go_wp2_with (go_at_call 10; refine (absOk_sx H0.out _ (HZ.out.below ((Below.refl w.heap.size w).alloc (Nat.le_refl _) _)) hl).mono ?_; rintro e w1 ⟨rfl, hb⟩; have c0 : w1.cell? ⟨w.heap.size, 0, none⟩ = some (Value.bool true) := (hb.cell (p := ⟨w.heap.size, 0, none⟩) (by simp only [World.size_alloc, World.size_setCell, World.size_drew]; omega)).trans (by simp [go_sem, *]); have c1 : w1.cell? ⟨w.heap.size, 1, none⟩ = some (Value.slice a len cap) := (hb.cell (p := ⟨w.heap.size, 1, none⟩) (by simp only [World.size_alloc, World.size_setCell, World.size_drew]; omega)).trans (by simp [go_sem, *]); have c2 : w1.cell? ⟨w.heap.size, 2, none⟩ = some (Value.int .i64 lo) := (hb.cell (p := ⟨w.heap.size, 2, none⟩) (by simp only [World.size_alloc, World.size_setCell, World.size_drew]; omega)).trans (by simp [go_sem, *]); have c3 : w1.cell? ⟨w.heap.size, 3, none⟩ = some (Value.int .i64 hi) := (hb.cell (p := ⟨w.heap.size, 3, none⟩) (by simp only [World.size_alloc, World.size_setCell, World.size_drew]; omega)).trans (by simp [go_sem, *]); have hS : Below w.heap.size w w1 := below_on ((Below.refl w.heap.size w).alloc (Nat.le_refl _) _) hb; clear hb)
  all_goals (go_ret; exact ⟨rfl, hS⟩)
set_option maxRecDepth 100000 in
set_option maxHeartbeats 8000000 in
theorem absHas_s4 (a : Option Addr) (len cap : Nat) (lo hi : Int) (z : List (Int × Int)) (b : Option Addr) (len1 cap1 : Nat) (n1 : List Int) (d : Option Addr) (len2 cap2 : Nat) (n2 : List Int) (w : World) (hz : RdI w a len z) (hl : len ≤ 1048576) (hb : RdN w b len1 n1) (hd : RdN w d len2 n2) (hl1 : len1 ≤ 1048576) (hl2 : len2 ≤ 1048576) (h0 : absOk true z (lo, hi) = true) (h1 : len1 = 4) (h2 : len2 = 4) :
    Calls Try.prog 28 #[.agg #[.bool true, .slice a len cap, .int .i64 lo, .int .i64 hi], .slice b len1 cap1, .slice d len2 cap2] w fun e w' => e = .returned (.bool (((List.range 4).all fun i => hasI (z.getD i (0, 0)) (n1.getD i 0)) && ((List.range 4).all fun i => hasI (lo, hi) (n2.getD i 0)))) ∧ Below w.heap.size w w' := by
  have HZ := Lib.hid hz
  have HB := Lib.hid hb
  have HD := Lib.hid hd
  clear hz hb hd
  subst h1 h2
  obtain rfl : len = 4 := HZ.out.1.symm.trans (four_of_ok h0)
  have H0 := Lib.hid h0
  clear h0
  go_enter Try.func28, Try.ntmps28
  go_wp2_with (go_at_call 10; refine (absOk_sx H0.out _ (HZ.out.below ((Below.refl w.heap.size w).alloc (Nat.le_refl _) _)) hl).mono ?_; rintro e w1 ⟨rfl, hb⟩; have c0 : w1.cell? ⟨w.heap.size, 0, none⟩ = some (Value.bool true) := (hb.cell (p := ⟨w.heap.size, 0, none⟩) (by simp only [World.size_alloc, World.size_setCell, World.size_drew]; omega)).trans (by simp [go_sem, *]); have c1 : w1.cell? ⟨w.heap.size, 1, none⟩ = some (Value.slice a 4 cap) := (hb.cell (p := ⟨w.heap.size, 1, none⟩) (by simp only [World.size_alloc, World.size_setCell, World.size_drew]; omega)).trans (by simp [go_sem, *]); have c2 : w1.cell? ⟨w.heap.size, 2, none⟩ = some (Value.int .i64 lo) := (hb.cell (p := ⟨w.heap.size, 2, none⟩) (by simp only [World.size_alloc, World.size_setCell, World.size_drew]; omega)).trans (by simp [go_sem, *]); have c3 : w1.cell? ⟨w.heap.size, 3, none⟩ = some (Value.int .i64 hi) := (hb.cell (p := ⟨w.heap.size, 3, none⟩) (by simp only [World.size_alloc, World.size_setCell, World.size_drew]; omega)).trans (by simp [go_sem, *]); have hS : Below w.heap.size w w1 := below_on ((Below.refl w.heap.size w).alloc (Nat.le_refl _) _) hb; clear hb)
  go_loopw [7] (fun i wr => ∃ k : Nat, k ≤ 4 ∧ i = .int .i64 k ∧ Below w.heap.size w wr ∧ wr.cell? ⟨w.heap.size, 1, none⟩ = some (.slice a 4 cap) ∧ wr.cell? ⟨w.heap.size, 2, none⟩ = some (.int .i64 lo) ∧ wr.cell? ⟨w.heap.size, 3, none⟩ = some (.int .i64 hi) ∧ Hid (∀ j, j < k → hasI (z.getD j (0, 0)) (n1.getD j 0) = true)) (fun i _ => 4 - (intOf i).toNat)
  case atStart => exact ⟨0, by omega, rfl, hS, c1, c2, c3, Lib.hid (fun j hj => by omega)⟩
  case round =>
    clear hS c0 c1 c2 c3
    obtain ⟨k, hk, rfl, hS, b1, b2, b3, hH⟩ := hrel
    by_cases hlt : k < 4
    · obtain ⟨x0, rfl, hx0⟩ := rd_some (HZ.out.below hS) (by omega)
      obtain ⟨x1, rfl, hx1⟩ := (HB.out.below hS).some (by omega)
      obtain ⟨e0, e1⟩ := hx0 k hlt
      have e2 := hx1 k hlt
      clear hx0 hx1
      obtain ⟨⟨l0, u0⟩, hq0⟩ : ∃ q, q = z.getD k (0, 0) := ⟨_, rfl⟩
      obtain ⟨m, hq1⟩ : ∃ q, q = n1.getD k 0 := ⟨_, rfl⟩
      rw [← hq0] at e0 e1
      rw [← hq1] at e2
      simp only at e0 e1
      have j0 : (0 : Int) ≤ k := by omega
      have j1 : (k : Int) < 4 := by omega
      have k0 := cell_regrown e0
      have k1 := cell_regrown e1
      have k2 := cell_regrown e2
      have k3 := cell_regrown b1
      have k4 := cell_regrown b2
      have k5 := cell_regrown b3
      clear e0 e1 e2 b1 b2 b3
      rcases Bool.eq_false_or_eq_true (hasI (l0, u0) m) with ho | ho
      · have hH2 := Lib.hid (show ∀ j, j < k + 1 → hasI (z.getD j (0, 0)) (n1.getD j 0) = true from fun j hj => by
          by_cases e : j = k
          · subst e; rw [← hq0, ← hq1]; exact ho
          · exact hH.out j (by omega))
        have Ho := Lib.hid ho
        clear ho hq0 hq1
        go_wp2_with fail
        ((refine region_below (W0 := wr) mixed_ok (by kernel_rfl) (Below.refl _ _) ?_); (repeat (go_big_quiet_step ((go_at_call 49; with_reducible exact Calls.regrown_of (has_sx Ho.out _))))); (refine wpQuiet_nil ?_); (intro _ hq'); (obtain ⟨⟨dq, osq⟩, hq''⟩ := hq'); (subst hq''))
        go_wp2_with fail
        go_roundw
        case rel => exact ⟨k + 1, by omega, by go_num, below_on hS (below_regrown _ _ _), k3 _ _, k4 _ _, k5 _ _, hH2⟩
        case measure => simp [intOf] <;> omega
      · have hr1 := Lib.hid (all4_not (f := fun i => hasI (z.getD i (0, 0)) (n1.getD i 0)) hlt (by rw [← hq0, ← hq1]; exact ho))
        have Ho := Lib.hid ho
        clear ho hq0 hq1
        go_wp2_with fail
        ((refine region_below (W0 := wr) mixed_ok (by kernel_rfl) (Below.refl _ _) ?_); (repeat (go_big_quiet_step ((go_at_call 49; with_reducible exact Calls.regrown_of (has_sx Ho.out _))))); (refine wpQuiet_nil ?_); (intro _ hq'); (obtain ⟨⟨dq, osq⟩, hq''⟩ := hq'); (subst hq''))
        go_wp2_with fail
        go_ret
        exact ⟨ret_b (by rw [hr1.out, Bool.false_and]), below_on hS (below_regrown _ _ _)⟩
    obtain rfl : k = 4 := by omega
    have hr1 := Lib.hid (all4_yes (f := fun i => hasI (z.getD i (0, 0)) (n1.getD i 0)) hH.out)
    go_wp2_with fail
    go_loopw [8] (fun i wr => ∃ k : Nat, k ≤ 4 ∧ i = .int .i64 k ∧ Below w.heap.size w wr ∧ wr.cell? ⟨w.heap.size, 2, none⟩ = some (.int .i64 lo) ∧ wr.cell? ⟨w.heap.size, 3, none⟩ = some (.int .i64 hi) ∧ Hid (∀ j, j < k → hasI (lo, hi) (n2.getD j 0) = true)) (fun i _ => 4 - (intOf i).toNat)
    case atStart => exact ⟨0, by omega, rfl, hS, b2, b3, Lib.hid (fun j hj => by omega)⟩
    case round =>
      clear hS b2 b3
      obtain ⟨k, hk, rfl, hS, b2, b3, hH⟩ := hrel
      by_cases hlt : k < 4
      · obtain ⟨x2, rfl, hx2⟩ := (HD.out.below hS).some (by omega)
        have e2 := hx2 k hlt
        clear hx2
        obtain ⟨m, hq2⟩ : ∃ q, q = n2.getD k 0 := ⟨_, rfl⟩
        rw [← hq2] at e2
        have j0 : (0 : Int) ≤ k := by omega
        have j1 : (k : Int) < 4 := by omega
        have k2 := cell_regrown e2
        have k4 := cell_regrown b2
        have k5 := cell_regrown b3
        clear e2 b2 b3
        rcases Bool.eq_false_or_eq_true (hasI (lo, hi) m) with ho | ho
        · have hH2 := Lib.hid (show ∀ j, j < k + 1 → hasI (lo, hi) (n2.getD j 0) = true from fun j hj => by
            by_cases e : j = k
            · subst e; rw [← hq2]; exact ho
            · exact hH.out j (by omega))
          have Ho := Lib.hid ho
          clear ho hq2
          go_wp2_with fail
          ((refine region_below (W0 := wr) mixed_ok (by kernel_rfl) (Below.refl _ _) ?_); (repeat (go_big_quiet_step ((go_at_call 49; with_reducible exact Calls.regrown_of (has_sx Ho.out _))))); (refine wpQuiet_nil ?_); (intro _ hq'); (obtain ⟨⟨dq, osq⟩, hq''⟩ := hq'); (subst hq''))
          go_wp2_with fail
          go_roundw
          case rel => exact ⟨k + 1, by omega, by go_num, below_on hS (below_regrown _ _ _), k4 _ _, k5 _ _, hH2⟩
          case measure => simp [intOf] <;> omega
        · have hr2 := Lib.hid (all4_not (f := fun i => hasI (lo, hi) (n2.getD i 0)) hlt (by rw [← hq2]; exact ho))
          have Ho := Lib.hid ho
          clear ho hq2
          go_wp2_with fail
          ((refine region_below (W0 := wr) mixed_ok (by kernel_rfl) (Below.refl _ _) ?_); (repeat (go_big_quiet_step ((go_at_call 49; with_reducible exact Calls.regrown_of (has_sx Ho.out _))))); (refine wpQuiet_nil ?_); (intro _ hq'); (obtain ⟨⟨dq, osq⟩, hq''⟩ := hq'); (subst hq''))
          go_wp2_with fail
          go_ret
          exact ⟨ret_b (by rw [hr2.out, Bool.and_false]), below_on hS (below_regrown _ _ _)⟩
      · obtain rfl : k = 4 := by omega
        have hr2 := Lib.hid (all4_yes (f := fun i => hasI (lo, hi) (n2.getD i 0)) hH.out)
        go_wp2_with fail
        go_ret
        exact ⟨ret_b (by rw [hr1.out, hr2.out]; rfl), hS⟩
set_option maxRecDepth 100000 in
set_option maxHeartbeats 8000000 in
theorem absHas_s (on : Bool) (a : Option Addr) (len cap : Nat) (lo hi : Int) (z : List (Int × Int)) (b : Option Addr) (len1 cap1 : Nat) (n1 : List Int) (d : Option Addr) (len2 cap2 : Nat) (n2 : List Int) (w : World) (hz : RdI w a len z) (hl : len ≤ 1048576) (hb : RdN w b len1 n1) (hd : RdN w d len2 n2) (hl1 : len1 ≤ 1048576) (hl2 : len2 ≤ 1048576) :
    Calls Try.prog 28 #[.agg #[.bool on, .slice a len cap, .int .i64 lo, .int .i64 hi], .slice b len1 cap1, .slice d len2 cap2] w fun e w' => e = .returned (.bool (absHas on z (lo, hi) len1 n1 len2 n2)) ∧ Below w.heap.size w w' := by
  rcases Bool.eq_false_or_eq_true (absOk on z (lo, hi)) with h0 | h0
  · cases on with
    | false =>
      rw [show absHas false z (lo, hi) len1 n1 len2 n2 = false by simp [absHas]]
      exact absHas_s1 a len cap lo hi z b len1 cap1 n1 d len2 cap2 n2 w hz hl hb hd hl1 hl2 h0
    | true =>
      by_cases h1 : len1 = 4
      · by_cases h2 : len2 = 4
        · rw [show absHas true z (lo, hi) len1 n1 len2 n2 = (((List.range 4).all fun i => hasI (z.getD i (0, 0)) (n1.getD i 0)) && ((List.range 4).all fun i => hasI (lo, hi) (n2.getD i 0))) by simp only [absHas, h0, h1, h2, decide_true, Bool.true_and]]
          exact absHas_s4 a len cap lo hi z b len1 cap1 n1 d len2 cap2 n2 w hz hl hb hd hl1 hl2 h0 h1 h2
        · rw [show absHas true z (lo, hi) len1 n1 len2 n2 = false by simp [absHas, h2]]
          exact absHas_s3 a len cap lo hi z b len1 cap1 n1 d len2 cap2 n2 w hz hl hb hd hl1 hl2 h0 h1 h2
      · rw [show absHas true z (lo, hi) len1 n1 len2 n2 = false by simp [absHas, h1]]
        exact absHas_s2 a len cap lo hi z b len1 cap1 n1 d len2 cap2 n2 w hz hl hb hd hl1 hl2 h0 h1
  · rw [show absHas on z (lo, hi) len1 n1 len2 n2 = false by simp [absHas, h0]]
    exact absHas_s0 on a len cap lo hi z b len1 cap1 n1 d len2 cap2 n2 w hz hl hb hd hl1 hl2 h0
end Go.Proofs.Ythbbakmohcjblaa
