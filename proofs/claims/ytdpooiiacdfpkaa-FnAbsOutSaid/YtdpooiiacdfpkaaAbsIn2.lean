/-
  When an abstract state lies in another: the program's inState and AbsIn, by contract. No conditions but those that each theorem says.
-/
import Derived.Test.YtdpooiiacdfpkaaAbsIn
namespace Go.Proofs.Ytdpooiiacdfpkaa
set_option linter.unusedSimpArgs false
set_option linter.unusedVariables false
open Go.ChangeShapes Go.WideShapes Go.ChangeAt Go.RowKit Go.Sort

theorem StAt.below {w w' : World} {g : Nat} {z : List (Int × Int)} {lo hi : Int} (h : StAt w g z lo hi) (hb : Below w.heap.size w w') : StAt w' g z lo hi :=
  ⟨fun i hi => ⟨(hb.cell (World.block_lt_of_cell? w _ (h.1 i hi).1)).trans (h.1 i hi).1, (hb.cell (World.block_lt_of_cell? w _ (h.1 i hi).2)).trans (h.1 i hi).2⟩, (hb.cell (World.block_lt_of_cell? w _ h.2.1)).trans h.2.1, (hb.cell (World.block_lt_of_cell? w _ h.2.2)).trans h.2.2⟩
set_option maxHeartbeats 1000000 in
theorem inState_nil (p : Option Addr) (w : World) : Calls Try.prog 51 #[.pointer none, .pointer p] w fun e w' => e = .returned (.bool true) ∧ Below w.heap.size w w' := by
  cases p
  all_goals
    go_enter Try.func51, Try.ntmps51
    go_wp2_with fail
    all_goals (go_ret; exact ⟨rfl, by go_grown⟩)
set_option maxHeartbeats 1000000 in
theorem inState_one (g : Nat) (w : World) : Calls Try.prog 51 #[.pointer (some ⟨g, 0, none⟩), .pointer none] w fun e w' => e = .returned (.bool false) ∧ Below w.heap.size w w' := by
  go_enter Try.func51, Try.ntmps51
  go_wp2_with fail
  all_goals (go_ret; exact ⟨rfl, by go_grown⟩)
set_option maxRecDepth 100000 in
set_option maxHeartbeats 8000000 in
theorem inState_two (g0 g1 : Nat) (z0 z1 : List (Int × Int)) (lo0 hi0 lo1 hi1 : Int) (w : World) (hs0 : StAt w g0 z0 lo0 hi0) (hs1 : StAt w g1 z1 lo1 hi1) : Calls Try.prog 51 #[.pointer (some ⟨g0, 0, none⟩), .pointer (some ⟨g1, 0, none⟩)] w fun e w' => e = .returned (.bool (((List.range 4).all fun i => inI (z0.getD i (0, 0)) (z1.getD i (0, 0))) && inI (lo0, hi0) (lo1, hi1))) ∧ Below w.heap.size w w' := by
  have HS0 := Lib.hid hs0
  have HS1 := Lib.hid hs1
  clear hs0 hs1
  go_enter Try.func51, Try.ntmps51
  go_wp2_with fail
  go_loopw [14] (fun i wr => ∃ k : Nat, k ≤ 4 ∧ i = .int .i64 k ∧ Below w.heap.size w wr ∧ Hid (∀ j, j < k → inI (z0.getD j (0, 0)) (z1.getD j (0, 0)) = true)) (fun i _ => 4 - (intOf i).toNat)
  case atStart => exact ⟨0, by omega, rfl, by go_grown, Lib.hid (fun j hj => by omega)⟩
  case round =>
    obtain ⟨k, hk, rfl, hS, hH⟩ := hrel
    have hT0 := HS0.out.below hS
    have hT1 := HS1.out.below hS
    by_cases hlt : k < 4
    · obtain ⟨e0, e1⟩ := hT0.1 k hlt
      obtain ⟨e2, e3⟩ := hT1.1 k hlt
      clear hT0 hT1
      obtain ⟨⟨l0, u0⟩, hq0⟩ : ∃ q, q = z0.getD k (0, 0) := ⟨_, rfl⟩
      obtain ⟨⟨l1, u1⟩, hq1⟩ : ∃ q, q = z1.getD k (0, 0) := ⟨_, rfl⟩
      rw [← hq0] at e0 e1
      rw [← hq1] at e2 e3
      simp only at e0 e1 e2 e3
      have j0 : (0 : Int) ≤ k := by omega
      have j1 : (k : Int) < 4 := by omega
      have k0 := cell_regrown e0
      have k1 := cell_regrown e1
      have k2 := cell_regrown e2
      have k3 := cell_regrown e3
      clear e0 e1 e2 e3
      rcases Bool.eq_false_or_eq_true (inI (l0, u0) (l1, u1)) with ho | ho
      · have hH2 := Lib.hid (show ∀ j, j < k + 1 → inI (z0.getD j (0, 0)) (z1.getD j (0, 0)) = true from fun j hj => by
          by_cases e : j = k
          · subst e; rw [← hq0, ← hq1]; exact ho
          · exact hH.out j (by omega))
        have Ho := Lib.hid ho
        clear ho hq0 hq1
        go_wp2_with fail
        ((refine region_below (W0 := wr) mixed_ok (by kernel_rfl) (Below.refl _ _) ?_); (repeat (go_big_quiet_step ((go_at_call 65; with_reducible exact Calls.regrown_of (in_ix Ho.out _))))); (refine wpQuiet_nil ?_); (intro _ hq'); (obtain ⟨⟨dq, osq⟩, hq''⟩ := hq'); (subst hq''))
        go_wp2_with fail
        go_roundw
        case rel => exact ⟨k + 1, by omega, by go_num, below_on hS (below_regrown _ _ _), hH2⟩
        case measure => simp [intOf] <;> omega
      · have hr2 := Lib.hid (all_not (z0 := z0) (z1 := z1) (k := k) hlt (by rw [← hq0, ← hq1]; exact ho))
        have Ho := Lib.hid ho
        clear ho hq0 hq1
        go_wp2_with fail
        ((refine region_below (W0 := wr) mixed_ok (by kernel_rfl) (Below.refl _ _) ?_); (repeat (go_big_quiet_step ((go_at_call 65; with_reducible exact Calls.regrown_of (in_ix Ho.out _))))); (refine wpQuiet_nil ?_); (intro _ hq'); (obtain ⟨⟨dq, osq⟩, hq''⟩ := hq'); (subst hq''))
        go_wp2_with fail
        go_ret
        exact ⟨ret_b (by rw [hr2.out]; rfl), below_on hS (below_regrown _ _ _)⟩
    · obtain rfl : k = 4 := by omega
      have hr2 := Lib.hid (all_yes hH.out)
      have k0 := cell_regrown hT0.2.1
      have k1 := cell_regrown hT0.2.2
      have k2 := cell_regrown hT1.2.1
      have k3 := cell_regrown hT1.2.2
      clear hT0 hT1
      go_wp2_with fail
      ((refine region_below (W0 := wr) mixed_ok (by kernel_rfl) (Below.refl _ _) ?_); (repeat (go_big_quiet_step ((go_at_call 65; with_reducible exact Calls.regrown_of (itvIn_i _ _ _ _ _))))); (refine wpQuiet_nil ?_); (intro _ hq'); (obtain ⟨⟨dq, osq⟩, hq''⟩ := hq'); (subst hq''))
      go_wp2_with fail
      go_ret
      exact ⟨ret_b (by rw [hr2.out, Bool.true_and]), below_on hS (below_regrown _ _ _)⟩
/-- A slice as the program's readState wants it: it starts at its block's beginning. -/
def AtHead (a : Option Addr) (len cap : Nat) : Prop := len ≤ cap ∧ (len = 0 ∨ ∃ g, a = some ⟨g, 0, none⟩)
theorem rs_any {on : Bool} {a : Option Addr} {len cap : Nat} {lo hi : Int} {z : List (Int × Int)} {x : Bool} (h : absOk on z (lo, hi) = x) (w : World) (hz : RdI w a len z) (hl : len ≤ 1048576) (ha : AtHead a len cap) : Calls Try.prog 31 #[.agg #[.bool on, .slice a len cap, .int .i64 lo, .int .i64 hi]] w fun e w' => ∃ p, e = .returned (.tuple #[.pointer p, .bool x]) ∧ Below w.heap.size w w' := by
  subst h
  cases on with
  | false => exact (readState_off a len cap lo hi z w hz hl).mono fun e w' ⟨h1, h2⟩ => ⟨none, h1, h2⟩
  | true =>
    rcases Bool.eq_false_or_eq_true (absOk true z (lo, hi)) with hn | hn
    · rw [hn]
      obtain rfl : len = 4 := hz.1.symm.trans (four_of_ok hn)
      obtain ⟨g0, rfl⟩ := ha.2.resolve_left (by omega)
      exact (readState_yes g0 cap lo hi z w hz ha.1 hn).mono fun e w' ⟨g, h1, _, _, h2⟩ => ⟨_, h1, h2⟩
    · rw [hn]
      exact (readState_no a len cap lo hi z w hz hl hn).mono fun e w' ⟨h1, h2⟩ => ⟨none, h1, h2⟩
theorem rs_off {a : Option Addr} {len cap : Nat} {lo hi : Int} {z : List (Int × Int)} {x : Bool} (h : absOk false z (lo, hi) = x) (w : World) (hz : RdI w a len z) (hl : len ≤ 1048576) : Calls Try.prog 31 #[.agg #[.bool false, .slice a len cap, .int .i64 lo, .int .i64 hi]] w fun e w' => e = .returned (.tuple #[.pointer none, .bool x]) ∧ Below w.heap.size w w' := by
  subst h
  exact readState_off a len cap lo hi z w hz hl
theorem rs_on {a : Option Addr} {len cap : Nat} {lo hi : Int} {z : List (Int × Int)} (h : absOk true z (lo, hi) = true) (w : World) (hz : RdI w a len z) (ha : AtHead a len cap) : Calls Try.prog 31 #[.agg #[.bool true, .slice a len cap, .int .i64 lo, .int .i64 hi]] w fun e w' => ∃ g, e = .returned (.tuple #[.pointer (some ⟨g, 0, none⟩), .bool true]) ∧ StAt w' g z lo hi ∧ Below w.heap.size w w' := by
  obtain rfl : len = 4 := hz.1.symm.trans (four_of_ok h)
  obtain ⟨g0, rfl⟩ := ha.2.resolve_left (by omega)
  exact (readState_yes g0 cap lo hi z w hz ha.1 h).mono fun e w' ⟨g, h1, _, h3, h2⟩ => ⟨g, h1, h3, h2⟩
theorem in_two {g0 g1 : Nat} {z0 z1 : List (Int × Int)} {lo0 hi0 lo1 hi1 : Int} {x : Bool} (hx : (((List.range 4).all fun i => inI (z0.getD i (0, 0)) (z1.getD i (0, 0))) && inI (lo0, hi0) (lo1, hi1)) = x) (w : World) (hs0 : StAt w g0 z0 lo0 hi0) (hs1 : StAt w g1 z1 lo1 hi1) : Calls Try.prog 51 #[.pointer (some ⟨g0, 0, none⟩), .pointer (some ⟨g1, 0, none⟩)] w fun e w' => e = .returned (.bool x) ∧ Below w.heap.size w w' := by
  have k := inState_two g0 g1 z0 z1 lo0 hi0 lo1 hi1 w hs0 hs1
  rw [hx] at k
  exact k
set_option maxRecDepth 100000 in
set_option maxHeartbeats 8000000 in
theorem absIn_i0 (on0 : Bool) (a0 : Option Addr) (len0 cap0 : Nat) (lo0 hi0 : Int) (z0 : List (Int × Int)) (on1 : Bool) (a1 : Option Addr) (len1 cap1 : Nat) (lo1 hi1 : Int) (z1 : List (Int × Int)) (w : World) (hz0 : RdI w a0 len0 z0) (hl0 : len0 ≤ 1048576) (ha0 : AtHead a0 len0 cap0) (hz1 : RdI w a1 len1 z1) (hl1 : len1 ≤ 1048576) (ha1 : AtHead a1 len1 cap1) (h0 : absOk on0 z0 (lo0, hi0) = false) (x1 : Bool) (h1 : absOk on1 z1 (lo1, hi1) = x1) :
    Calls Try.prog 24 #[.agg #[.bool on0, .slice a0 len0 cap0, .int .i64 lo0, .int .i64 hi0], .agg #[.bool on1, .slice a1 len1 cap1, .int .i64 lo1, .int .i64 hi1]] w fun e w' => e = .returned (.bool false) ∧ Below w.heap.size w w' := by
  have HZ0 := Lib.hid hz0
  have HZ1 := Lib.hid hz1
  have HA0 := Lib.hid ha0
  have HA1 := Lib.hid ha1
  clear hz0 hz1 ha0 ha1
  have H0 := Lib.hid h0
  have H1 := Lib.hid h1
  clear h0 h1
  go_enter Try.func24, Try.ntmps24
  go_wp2_with (first | (go_at_call 31; first | (have _hk := hS; refine (rs_any H1.out _ (HZ1.out.below hS) hl1 HA1.out).mono ?_; rintro e w2 ⟨p1, rfl, hb⟩; have hS2 : Below w.heap.size w w2 := below_on hS hb; clear hS hb) | (refine (rs_any H0.out _ (HZ0.out.below (((Below.refl w.heap.size w).alloc (Nat.le_refl _) _).alloc (by simp only [World.size_alloc]; omega) _)) hl0 HA0.out).mono ?_; rintro e w1 ⟨p0, rfl, hb⟩; have c0 : w1.cell? ⟨w.heap.size, 0, none⟩ = some (Value.bool on0) := (hb.cell (p := ⟨w.heap.size, 0, none⟩) (by simp only [World.size_alloc, World.size_setCell, World.size_drew]; omega)).trans (by simp [go_sem, *]); have c1 : w1.cell? ⟨w.heap.size, 1, none⟩ = some (Value.slice a0 len0 cap0) := (hb.cell (p := ⟨w.heap.size, 1, none⟩) (by simp only [World.size_alloc, World.size_setCell, World.size_drew]; omega)).trans (by simp [go_sem, *]); have c2 : w1.cell? ⟨w.heap.size, 2, none⟩ = some (Value.int .i64 lo0) := (hb.cell (p := ⟨w.heap.size, 2, none⟩) (by simp only [World.size_alloc, World.size_setCell, World.size_drew]; omega)).trans (by simp [go_sem, *]); have c3 : w1.cell? ⟨w.heap.size, 3, none⟩ = some (Value.int .i64 hi0) := (hb.cell (p := ⟨w.heap.size, 3, none⟩) (by simp only [World.size_alloc, World.size_setCell, World.size_drew]; omega)).trans (by simp [go_sem, *]); have d0 : w1.cell? ⟨w.heap.size + 1, 0, none⟩ = some (Value.bool on1) := (hb.cell (p := ⟨w.heap.size + 1, 0, none⟩) (by simp only [World.size_alloc, World.size_setCell, World.size_drew]; omega)).trans (by simp [go_sem, *]); have d1 : w1.cell? ⟨w.heap.size + 1, 1, none⟩ = some (Value.slice a1 len1 cap1) := (hb.cell (p := ⟨w.heap.size + 1, 1, none⟩) (by simp only [World.size_alloc, World.size_setCell, World.size_drew]; omega)).trans (by simp [go_sem, *]); have d2 : w1.cell? ⟨w.heap.size + 1, 2, none⟩ = some (Value.int .i64 lo1) := (hb.cell (p := ⟨w.heap.size + 1, 2, none⟩) (by simp only [World.size_alloc, World.size_setCell, World.size_drew]; omega)).trans (by simp [go_sem, *]); have d3 : w1.cell? ⟨w.heap.size + 1, 3, none⟩ = some (Value.int .i64 hi1) := (hb.cell (p := ⟨w.heap.size + 1, 3, none⟩) (by simp only [World.size_alloc, World.size_setCell, World.size_drew]; omega)).trans (by simp [go_sem, *]); have hS : Below w.heap.size w w1 := below_on (((Below.refl w.heap.size w).alloc (Nat.le_refl _) _).alloc (by simp only [World.size_alloc]; omega) _) hb; clear hb)))
  all_goals (go_ret; exact ⟨rfl, hS2⟩)
set_option maxRecDepth 100000 in
set_option maxHeartbeats 8000000 in
theorem absIn_i1 (on0 : Bool) (a0 : Option Addr) (len0 cap0 : Nat) (lo0 hi0 : Int) (z0 : List (Int × Int)) (on1 : Bool) (a1 : Option Addr) (len1 cap1 : Nat) (lo1 hi1 : Int) (z1 : List (Int × Int)) (w : World) (hz0 : RdI w a0 len0 z0) (hl0 : len0 ≤ 1048576) (ha0 : AtHead a0 len0 cap0) (hz1 : RdI w a1 len1 z1) (hl1 : len1 ≤ 1048576) (ha1 : AtHead a1 len1 cap1) (h0 : absOk on0 z0 (lo0, hi0) = true) (h1 : absOk on1 z1 (lo1, hi1) = false) :
    Calls Try.prog 24 #[.agg #[.bool on0, .slice a0 len0 cap0, .int .i64 lo0, .int .i64 hi0], .agg #[.bool on1, .slice a1 len1 cap1, .int .i64 lo1, .int .i64 hi1]] w fun e w' => e = .returned (.bool false) ∧ Below w.heap.size w w' := by
  have HZ0 := Lib.hid hz0
  have HZ1 := Lib.hid hz1
  have HA0 := Lib.hid ha0
  have HA1 := Lib.hid ha1
  clear hz0 hz1 ha0 ha1
  have H0 := Lib.hid h0
  have H1 := Lib.hid h1
  clear h0 h1
  go_enter Try.func24, Try.ntmps24
  go_wp2_with (first | (go_at_call 31; first | (have _hk := hS; refine (rs_any H1.out _ (HZ1.out.below hS) hl1 HA1.out).mono ?_; rintro e w2 ⟨p1, rfl, hb⟩; have hS2 : Below w.heap.size w w2 := below_on hS hb; clear hS hb) | (refine (rs_any H0.out _ (HZ0.out.below (((Below.refl w.heap.size w).alloc (Nat.le_refl _) _).alloc (by simp only [World.size_alloc]; omega) _)) hl0 HA0.out).mono ?_; rintro e w1 ⟨p0, rfl, hb⟩; have c0 : w1.cell? ⟨w.heap.size, 0, none⟩ = some (Value.bool on0) := (hb.cell (p := ⟨w.heap.size, 0, none⟩) (by simp only [World.size_alloc, World.size_setCell, World.size_drew]; omega)).trans (by simp [go_sem, *]); have c1 : w1.cell? ⟨w.heap.size, 1, none⟩ = some (Value.slice a0 len0 cap0) := (hb.cell (p := ⟨w.heap.size, 1, none⟩) (by simp only [World.size_alloc, World.size_setCell, World.size_drew]; omega)).trans (by simp [go_sem, *]); have c2 : w1.cell? ⟨w.heap.size, 2, none⟩ = some (Value.int .i64 lo0) := (hb.cell (p := ⟨w.heap.size, 2, none⟩) (by simp only [World.size_alloc, World.size_setCell, World.size_drew]; omega)).trans (by simp [go_sem, *]); have c3 : w1.cell? ⟨w.heap.size, 3, none⟩ = some (Value.int .i64 hi0) := (hb.cell (p := ⟨w.heap.size, 3, none⟩) (by simp only [World.size_alloc, World.size_setCell, World.size_drew]; omega)).trans (by simp [go_sem, *]); have d0 : w1.cell? ⟨w.heap.size + 1, 0, none⟩ = some (Value.bool on1) := (hb.cell (p := ⟨w.heap.size + 1, 0, none⟩) (by simp only [World.size_alloc, World.size_setCell, World.size_drew]; omega)).trans (by simp [go_sem, *]); have d1 : w1.cell? ⟨w.heap.size + 1, 1, none⟩ = some (Value.slice a1 len1 cap1) := (hb.cell (p := ⟨w.heap.size + 1, 1, none⟩) (by simp only [World.size_alloc, World.size_setCell, World.size_drew]; omega)).trans (by simp [go_sem, *]); have d2 : w1.cell? ⟨w.heap.size + 1, 2, none⟩ = some (Value.int .i64 lo1) := (hb.cell (p := ⟨w.heap.size + 1, 2, none⟩) (by simp only [World.size_alloc, World.size_setCell, World.size_drew]; omega)).trans (by simp [go_sem, *]); have d3 : w1.cell? ⟨w.heap.size + 1, 3, none⟩ = some (Value.int .i64 hi1) := (hb.cell (p := ⟨w.heap.size + 1, 3, none⟩) (by simp only [World.size_alloc, World.size_setCell, World.size_drew]; omega)).trans (by simp [go_sem, *]); have hS : Below w.heap.size w w1 := below_on (((Below.refl w.heap.size w).alloc (Nat.le_refl _) _).alloc (by simp only [World.size_alloc]; omega) _) hb; clear hb)))
  all_goals (go_ret; exact ⟨rfl, hS2⟩)
set_option maxRecDepth 100000 in
set_option maxHeartbeats 8000000 in
theorem absIn_i2 (a0 : Option Addr) (len0 cap0 : Nat) (lo0 hi0 : Int) (z0 : List (Int × Int)) (on1 : Bool) (a1 : Option Addr) (len1 cap1 : Nat) (lo1 hi1 : Int) (z1 : List (Int × Int)) (w : World) (hz0 : RdI w a0 len0 z0) (hl0 : len0 ≤ 1048576) (ha0 : AtHead a0 len0 cap0) (hz1 : RdI w a1 len1 z1) (hl1 : len1 ≤ 1048576) (ha1 : AtHead a1 len1 cap1) (h0 : absOk false z0 (lo0, hi0) = true) (h1 : absOk on1 z1 (lo1, hi1) = true) :
    Calls Try.prog 24 #[.agg #[.bool false, .slice a0 len0 cap0, .int .i64 lo0, .int .i64 hi0], .agg #[.bool on1, .slice a1 len1 cap1, .int .i64 lo1, .int .i64 hi1]] w fun e w' => e = .returned (.bool true) ∧ Below w.heap.size w w' := by
  have HZ0 := Lib.hid hz0
  have HZ1 := Lib.hid hz1
  have HA0 := Lib.hid ha0
  have HA1 := Lib.hid ha1
  clear hz0 hz1 ha0 ha1
  have H0 := Lib.hid h0
  have H1 := Lib.hid h1
  clear h0 h1
  go_enter Try.func24, Try.ntmps24
  go_wp2_with (first | (go_at_call 31; first | (have _hk := hS; refine (rs_any H1.out _ (HZ1.out.below hS) hl1 HA1.out).mono ?_; rintro e w2 ⟨p1, rfl, hb⟩; have hS2 : Below w.heap.size w w2 := below_on hS hb; clear hS hb) | (refine (rs_off H0.out _ (HZ0.out.below (((Below.refl w.heap.size w).alloc (Nat.le_refl _) _).alloc (by simp only [World.size_alloc]; omega) _)) hl0).mono ?_; rintro e w1 ⟨rfl, hb⟩; have c0 : w1.cell? ⟨w.heap.size, 0, none⟩ = some (Value.bool false) := (hb.cell (p := ⟨w.heap.size, 0, none⟩) (by simp only [World.size_alloc, World.size_setCell, World.size_drew]; omega)).trans (by simp [go_sem, *]); have c1 : w1.cell? ⟨w.heap.size, 1, none⟩ = some (Value.slice a0 len0 cap0) := (hb.cell (p := ⟨w.heap.size, 1, none⟩) (by simp only [World.size_alloc, World.size_setCell, World.size_drew]; omega)).trans (by simp [go_sem, *]); have c2 : w1.cell? ⟨w.heap.size, 2, none⟩ = some (Value.int .i64 lo0) := (hb.cell (p := ⟨w.heap.size, 2, none⟩) (by simp only [World.size_alloc, World.size_setCell, World.size_drew]; omega)).trans (by simp [go_sem, *]); have c3 : w1.cell? ⟨w.heap.size, 3, none⟩ = some (Value.int .i64 hi0) := (hb.cell (p := ⟨w.heap.size, 3, none⟩) (by simp only [World.size_alloc, World.size_setCell, World.size_drew]; omega)).trans (by simp [go_sem, *]); have d0 : w1.cell? ⟨w.heap.size + 1, 0, none⟩ = some (Value.bool on1) := (hb.cell (p := ⟨w.heap.size + 1, 0, none⟩) (by simp only [World.size_alloc, World.size_setCell, World.size_drew]; omega)).trans (by simp [go_sem, *]); have d1 : w1.cell? ⟨w.heap.size + 1, 1, none⟩ = some (Value.slice a1 len1 cap1) := (hb.cell (p := ⟨w.heap.size + 1, 1, none⟩) (by simp only [World.size_alloc, World.size_setCell, World.size_drew]; omega)).trans (by simp [go_sem, *]); have d2 : w1.cell? ⟨w.heap.size + 1, 2, none⟩ = some (Value.int .i64 lo1) := (hb.cell (p := ⟨w.heap.size + 1, 2, none⟩) (by simp only [World.size_alloc, World.size_setCell, World.size_drew]; omega)).trans (by simp [go_sem, *]); have d3 : w1.cell? ⟨w.heap.size + 1, 3, none⟩ = some (Value.int .i64 hi1) := (hb.cell (p := ⟨w.heap.size + 1, 3, none⟩) (by simp only [World.size_alloc, World.size_setCell, World.size_drew]; omega)).trans (by simp [go_sem, *]); have hS : Below w.heap.size w w1 := below_on (((Below.refl w.heap.size w).alloc (Nat.le_refl _) _).alloc (by simp only [World.size_alloc]; omega) _) hb; clear hb)) | (go_at_call 51; refine (inState_nil _ _).mono ?_; rintro e w3 ⟨rfl, hb⟩; have hS3 : Below w.heap.size w w3 := below_on hS2 hb; clear hS2 hb))
  all_goals (go_ret; exact ⟨rfl, hS3⟩)
set_option maxRecDepth 100000 in
set_option maxHeartbeats 8000000 in
theorem absIn_i3 (a0 : Option Addr) (len0 cap0 : Nat) (lo0 hi0 : Int) (z0 : List (Int × Int)) (a1 : Option Addr) (len1 cap1 : Nat) (lo1 hi1 : Int) (z1 : List (Int × Int)) (w : World) (hz0 : RdI w a0 len0 z0) (hl0 : len0 ≤ 1048576) (ha0 : AtHead a0 len0 cap0) (hz1 : RdI w a1 len1 z1) (hl1 : len1 ≤ 1048576) (ha1 : AtHead a1 len1 cap1) (h0 : absOk true z0 (lo0, hi0) = true) (h1 : absOk false z1 (lo1, hi1) = true) :
    Calls Try.prog 24 #[.agg #[.bool true, .slice a0 len0 cap0, .int .i64 lo0, .int .i64 hi0], .agg #[.bool false, .slice a1 len1 cap1, .int .i64 lo1, .int .i64 hi1]] w fun e w' => e = .returned (.bool false) ∧ Below w.heap.size w w' := by
  have HZ0 := Lib.hid hz0
  have HZ1 := Lib.hid hz1
  have HA0 := Lib.hid ha0
  have HA1 := Lib.hid ha1
  clear hz0 hz1 ha0 ha1
  have H0 := Lib.hid h0
  have H1 := Lib.hid h1
  clear h0 h1
  go_enter Try.func24, Try.ntmps24
  go_wp2_with (first | (go_at_call 31; first | (have _hk := hS; refine (rs_off H1.out _ (HZ1.out.below hS) hl1).mono ?_; rintro e w2 ⟨rfl, hb⟩; have hst0' := hst0.below hb; clear hst0; have hst0 := hst0'; clear hst0'; have hS2 : Below w.heap.size w w2 := below_on hS hb; clear hS hb) | (refine (rs_on H0.out _ (HZ0.out.below (((Below.refl w.heap.size w).alloc (Nat.le_refl _) _).alloc (by simp only [World.size_alloc]; omega) _)) HA0.out).mono ?_; rintro e w1 ⟨g0, rfl, hst0, hb⟩; have c0 : w1.cell? ⟨w.heap.size, 0, none⟩ = some (Value.bool true) := (hb.cell (p := ⟨w.heap.size, 0, none⟩) (by simp only [World.size_alloc, World.size_setCell, World.size_drew]; omega)).trans (by simp [go_sem, *]); have c1 : w1.cell? ⟨w.heap.size, 1, none⟩ = some (Value.slice a0 len0 cap0) := (hb.cell (p := ⟨w.heap.size, 1, none⟩) (by simp only [World.size_alloc, World.size_setCell, World.size_drew]; omega)).trans (by simp [go_sem, *]); have c2 : w1.cell? ⟨w.heap.size, 2, none⟩ = some (Value.int .i64 lo0) := (hb.cell (p := ⟨w.heap.size, 2, none⟩) (by simp only [World.size_alloc, World.size_setCell, World.size_drew]; omega)).trans (by simp [go_sem, *]); have c3 : w1.cell? ⟨w.heap.size, 3, none⟩ = some (Value.int .i64 hi0) := (hb.cell (p := ⟨w.heap.size, 3, none⟩) (by simp only [World.size_alloc, World.size_setCell, World.size_drew]; omega)).trans (by simp [go_sem, *]); have d0 : w1.cell? ⟨w.heap.size + 1, 0, none⟩ = some (Value.bool false) := (hb.cell (p := ⟨w.heap.size + 1, 0, none⟩) (by simp only [World.size_alloc, World.size_setCell, World.size_drew]; omega)).trans (by simp [go_sem, *]); have d1 : w1.cell? ⟨w.heap.size + 1, 1, none⟩ = some (Value.slice a1 len1 cap1) := (hb.cell (p := ⟨w.heap.size + 1, 1, none⟩) (by simp only [World.size_alloc, World.size_setCell, World.size_drew]; omega)).trans (by simp [go_sem, *]); have d2 : w1.cell? ⟨w.heap.size + 1, 2, none⟩ = some (Value.int .i64 lo1) := (hb.cell (p := ⟨w.heap.size + 1, 2, none⟩) (by simp only [World.size_alloc, World.size_setCell, World.size_drew]; omega)).trans (by simp [go_sem, *]); have d3 : w1.cell? ⟨w.heap.size + 1, 3, none⟩ = some (Value.int .i64 hi1) := (hb.cell (p := ⟨w.heap.size + 1, 3, none⟩) (by simp only [World.size_alloc, World.size_setCell, World.size_drew]; omega)).trans (by simp [go_sem, *]); have hS : Below w.heap.size w w1 := below_on (((Below.refl w.heap.size w).alloc (Nat.le_refl _) _).alloc (by simp only [World.size_alloc]; omega) _) hb; clear hb)) | (go_at_call 51; refine (inState_one _ _).mono ?_; rintro e w3 ⟨rfl, hb⟩; have hS3 : Below w.heap.size w w3 := below_on hS2 hb; clear hS2 hb))
  all_goals (go_ret; exact ⟨rfl, hS3⟩)
set_option maxRecDepth 100000 in
set_option maxHeartbeats 8000000 in
theorem absIn_i5 (a0 : Option Addr) (len0 cap0 : Nat) (lo0 hi0 : Int) (z0 : List (Int × Int)) (a1 : Option Addr) (len1 cap1 : Nat) (lo1 hi1 : Int) (z1 : List (Int × Int)) (w : World) (hz0 : RdI w a0 len0 z0) (hl0 : len0 ≤ 1048576) (ha0 : AtHead a0 len0 cap0) (hz1 : RdI w a1 len1 z1) (hl1 : len1 ≤ 1048576) (ha1 : AtHead a1 len1 cap1) (h0 : absOk true z0 (lo0, hi0) = true) (h1 : absOk true z1 (lo1, hi1) = true) (x : Bool) (hx : (((List.range 4).all fun i => inI (z0.getD i (0, 0)) (z1.getD i (0, 0))) && inI (lo0, hi0) (lo1, hi1)) = x) :
    Calls Try.prog 24 #[.agg #[.bool true, .slice a0 len0 cap0, .int .i64 lo0, .int .i64 hi0], .agg #[.bool true, .slice a1 len1 cap1, .int .i64 lo1, .int .i64 hi1]] w fun e w' => e = .returned (.bool x) ∧ Below w.heap.size w w' := by
  have HZ0 := Lib.hid hz0
  have HZ1 := Lib.hid hz1
  have HA0 := Lib.hid ha0
  have HA1 := Lib.hid ha1
  clear hz0 hz1 ha0 ha1
  have H0 := Lib.hid h0
  have H1 := Lib.hid h1
  have HX := Lib.hid hx
  clear h0 h1 hx
  go_enter Try.func24, Try.ntmps24
  go_wp2_with (first | (go_at_call 31; first | (have _hk := hS; refine (rs_on H1.out _ (HZ1.out.below hS) HA1.out).mono ?_; rintro e w2 ⟨g1, rfl, hst1, hb⟩; have hst0' := hst0.below hb; clear hst0; have hst0 := hst0'; clear hst0'; have hS2 : Below w.heap.size w w2 := below_on hS hb; clear hS hb) | (refine (rs_on H0.out _ (HZ0.out.below (((Below.refl w.heap.size w).alloc (Nat.le_refl _) _).alloc (by simp only [World.size_alloc]; omega) _)) HA0.out).mono ?_; rintro e w1 ⟨g0, rfl, hst0, hb⟩; have c0 : w1.cell? ⟨w.heap.size, 0, none⟩ = some (Value.bool true) := (hb.cell (p := ⟨w.heap.size, 0, none⟩) (by simp only [World.size_alloc, World.size_setCell, World.size_drew]; omega)).trans (by simp [go_sem, *]); have c1 : w1.cell? ⟨w.heap.size, 1, none⟩ = some (Value.slice a0 len0 cap0) := (hb.cell (p := ⟨w.heap.size, 1, none⟩) (by simp only [World.size_alloc, World.size_setCell, World.size_drew]; omega)).trans (by simp [go_sem, *]); have c2 : w1.cell? ⟨w.heap.size, 2, none⟩ = some (Value.int .i64 lo0) := (hb.cell (p := ⟨w.heap.size, 2, none⟩) (by simp only [World.size_alloc, World.size_setCell, World.size_drew]; omega)).trans (by simp [go_sem, *]); have c3 : w1.cell? ⟨w.heap.size, 3, none⟩ = some (Value.int .i64 hi0) := (hb.cell (p := ⟨w.heap.size, 3, none⟩) (by simp only [World.size_alloc, World.size_setCell, World.size_drew]; omega)).trans (by simp [go_sem, *]); have d0 : w1.cell? ⟨w.heap.size + 1, 0, none⟩ = some (Value.bool true) := (hb.cell (p := ⟨w.heap.size + 1, 0, none⟩) (by simp only [World.size_alloc, World.size_setCell, World.size_drew]; omega)).trans (by simp [go_sem, *]); have d1 : w1.cell? ⟨w.heap.size + 1, 1, none⟩ = some (Value.slice a1 len1 cap1) := (hb.cell (p := ⟨w.heap.size + 1, 1, none⟩) (by simp only [World.size_alloc, World.size_setCell, World.size_drew]; omega)).trans (by simp [go_sem, *]); have d2 : w1.cell? ⟨w.heap.size + 1, 2, none⟩ = some (Value.int .i64 lo1) := (hb.cell (p := ⟨w.heap.size + 1, 2, none⟩) (by simp only [World.size_alloc, World.size_setCell, World.size_drew]; omega)).trans (by simp [go_sem, *]); have d3 : w1.cell? ⟨w.heap.size + 1, 3, none⟩ = some (Value.int .i64 hi1) := (hb.cell (p := ⟨w.heap.size + 1, 3, none⟩) (by simp only [World.size_alloc, World.size_setCell, World.size_drew]; omega)).trans (by simp [go_sem, *]); have hS : Below w.heap.size w w1 := below_on (((Below.refl w.heap.size w).alloc (Nat.le_refl _) _).alloc (by simp only [World.size_alloc]; omega) _) hb; clear hb)) | (go_at_call 51; refine (in_two HX.out _ hst0 hst1).mono ?_; rintro e w3 ⟨rfl, hb⟩; have hS3 : Below w.heap.size w w3 := below_on hS2 hb; clear hS2 hb))
  all_goals (go_ret; exact ⟨rfl, hS3⟩)
set_option maxRecDepth 100000 in
set_option maxHeartbeats 8000000 in
theorem absIn_i (on0 : Bool) (a0 : Option Addr) (len0 cap0 : Nat) (lo0 hi0 : Int) (z0 : List (Int × Int)) (on1 : Bool) (a1 : Option Addr) (len1 cap1 : Nat) (lo1 hi1 : Int) (z1 : List (Int × Int)) (w : World) (hz0 : RdI w a0 len0 z0) (hl0 : len0 ≤ 1048576) (ha0 : AtHead a0 len0 cap0) (hz1 : RdI w a1 len1 z1) (hl1 : len1 ≤ 1048576) (ha1 : AtHead a1 len1 cap1) :
    Calls Try.prog 24 #[.agg #[.bool on0, .slice a0 len0 cap0, .int .i64 lo0, .int .i64 hi0], .agg #[.bool on1, .slice a1 len1 cap1, .int .i64 lo1, .int .i64 hi1]] w fun e w' => e = .returned (.bool (absIn on0 z0 (lo0, hi0) on1 z1 (lo1, hi1))) ∧ Below w.heap.size w w' := by
  rcases Bool.eq_false_or_eq_true (absOk on0 z0 (lo0, hi0)) with h0 | h0
  · rcases Bool.eq_false_or_eq_true (absOk on1 z1 (lo1, hi1)) with h1 | h1
    · cases on0 with
      | false =>
        rw [show absIn false z0 (lo0, hi0) on1 z1 (lo1, hi1) = true by simp [absIn, h0, h1]]
        exact absIn_i2 a0 len0 cap0 lo0 hi0 z0 on1 a1 len1 cap1 lo1 hi1 z1 w hz0 hl0 ha0 hz1 hl1 ha1 h0 h1
      | true =>
        cases on1 with
        | false =>
          rw [show absIn true z0 (lo0, hi0) false z1 (lo1, hi1) = false by simp [absIn]]
          exact absIn_i3 a0 len0 cap0 lo0 hi0 z0 a1 len1 cap1 lo1 hi1 z1 w hz0 hl0 ha0 hz1 hl1 ha1 h0 h1
        | true =>
          exact absIn_i5 a0 len0 cap0 lo0 hi0 z0 a1 len1 cap1 lo1 hi1 z1 w hz0 hl0 ha0 hz1 hl1 ha1 h0 h1 _ (by simp only [absIn, h0, h1, Bool.not_true, Bool.false_or, Bool.true_and]; exact Bool.and_comm _ _)
    · rw [show absIn on0 z0 (lo0, hi0) on1 z1 (lo1, hi1) = false by simp [absIn, h1]]
      exact absIn_i1 on0 a0 len0 cap0 lo0 hi0 z0 on1 a1 len1 cap1 lo1 hi1 z1 w hz0 hl0 ha0 hz1 hl1 ha1 h0 h1
  · rw [show absIn on0 z0 (lo0, hi0) on1 z1 (lo1, hi1) = false by simp [absIn, h0]]
    exact absIn_i0 on0 a0 len0 cap0 lo0 hi0 z0 on1 a1 len1 cap1 lo1 hi1 z1 w hz0 hl0 ha0 hz1 hl1 ha1 h0 _ rfl
end Go.Proofs.Ytdpooiiacdfpkaa
