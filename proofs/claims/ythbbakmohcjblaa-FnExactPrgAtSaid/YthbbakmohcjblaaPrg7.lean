/-
  Programs in memory, on: the laws' own comparing of slices of procs. No conditions but those that each theorem says.
-/
import Derived.Test.YthbbakmohcjblaaPrg6
namespace Go.Proofs.Ythbbakmohcjblaa
set_option linter.unusedSimpArgs false
set_option linter.unusedVariables false
open Go.ChangeShapes Go.WideShapes Go.ChangeAt Go.RowKit Go.Sort

theorem RdQ.some {G : Nat} {w : World} {a : Option Addr} {len : Nat} {P : Nat → Prc} {F : Nat → Nat → Nat → Int} (h : RdQ G w a len P F) (hl : 0 < len) : ∃ x, a = Option.some x ∧ ∀ i, i < len → ∃ b c, w.cell? (x.add (i * 3)) = Option.some (.int .i64 (P i).lo) ∧ w.cell? ⟨(x.add (i * 3)).block, (x.add (i * 3)).off + 1, none⟩ = Option.some (.int .i64 (P i).hi) ∧ w.cell? ⟨(x.add (i * 3)).block, (x.add (i * 3)).off + 2, none⟩ = Option.some (.slice b (P i).n c) ∧ RdC w b (P i).n (F i) := by
  obtain ⟨P', h1, h2⟩ := h
  obtain ⟨x, rfl, hx⟩ := RdP.some h1 hl
  refine ⟨x, rfl, fun i hi => ?_⟩
  obtain ⟨e0, e1, e2⟩ := hx i hi
  obtain ⟨k0, k1, k2, k3, _⟩ := h2 i hi
  rw [k0] at e0
  rw [k1] at e1
  rw [k2] at e2 k3
  exact ⟨_, _, e0, e1, e2, k3⟩
set_option maxRecDepth 100000 in
set_option maxHeartbeats 8000000 in
theorem eqPrcS_l (a b : Option Addr) (len ca cb : Nat) (P : Nat → Prc) (F : Nat → Nat → Nat → Int) (G H : Nat) (w : World) (ha : RdQ G w a len P F) (hb : RdQ H w b len P F) (hl : len ≤ 1048576) (hn : ∀ i, i < len → (P i).n ≤ 1048576) : Calls Try.prog 46 #[.slice a len ca, .slice b len cb] w fun e w' => e = .returned (.bool true) ∧ Below w.heap.size w w' := by
  have HA := Lib.hid ha
  have HB := Lib.hid hb
  have HN := Lib.hid hn
  have hlk : (len : Int) ≤ 1048576 := by omega
  clear ha hb hn
  go_enter Try.func46, Try.ntmps46
  go_wp2_with fail
  go_loopw [5] (fun i wr => ∃ k : Nat, k ≤ len ∧ i = .int .i64 k ∧ Below w.heap.size w wr) (fun i _ => len - (intOf i).toNat)
  case atStart => exact ⟨0, by omega, rfl, Below.refl _ _⟩
  case round =>
    obtain ⟨k, hk, rfl, hS⟩ := hrel
    by_cases hlt : k < len
    · obtain ⟨x, rfl, hx⟩ := HA.out.some (by omega)
      obtain ⟨y, rfl, hy⟩ := HB.out.some (by omega)
      obtain ⟨xb, xc, x0, x1, x2, xr⟩ := hx k hlt
      obtain ⟨yb, yc, y0, y1, y2, yr⟩ := hy k hlt
      have hnk := HN.out k hlt
      have kx0 := cell_regrown x0
      have kx1 := cell_regrown x1
      have kx2 := cell_regrown x2
      have ky0 := cell_regrown y0
      have ky1 := cell_regrown y1
      have ky2 := cell_regrown y2
      have XR := Lib.hid xr
      have YR := Lib.hid yr
      have j0 : (0 : Int) ≤ k := by omega
      have j1 : (k : Int) < len := by omega
      clear hx hy x0 x1 x2 y0 y1 y2 xr yr
      go_wp2_with fail
      ((refine region_below (W0 := w) mixed_ok (by kernel_rfl) hS ?_); (repeat (go_big_quiet_step ((go_at_call 60; with_reducible exact Calls.regrown_of (eqPrc_l _ _ _ _ _ _ _ (F k) _ (XR.out.below (below_regrown _ _ _)) (YR.out.below (below_regrown _ _ _)) hnk))))); (refine wpQuiet_nil ?_); (intro _ hq'); (obtain ⟨⟨dq, osq⟩, hq''⟩ := hq'); (subst hq''))
      go_wp2_with fail
      go_roundw
      case rel => exact ⟨k + 1, by omega, by go_num, below_regrown _ _ _⟩
      case measure => simp [intOf] <;> omega
    · go_wp2_with fail
      go_ret
      exact ⟨rfl, hS⟩
set_option maxRecDepth 100000 in
set_option maxHeartbeats 4000000 in
theorem eqPrg_l (a b : Option Addr) (len ca cb : Nat) (P : Nat → Prc) (F : Nat → Nat → Nat → Int) (G H : Nat) (w : World) (ha : RdQ G w a len P F) (hb : RdQ H w b len P F) (hl : len ≤ 1048576) (hn : ∀ i, i < len → (P i).n ≤ 1048576) : Calls Try.prog 24 #[.agg #[.slice a len ca], .agg #[.slice b len cb]] w fun e w' => e = .returned (.bool true) ∧ Below w.heap.size w w' := by
  have HA := Lib.hid ha
  have HB := Lib.hid hb
  have HN := Lib.hid hn
  clear ha hb hn
  go_enter Try.func24, Try.ntmps24
  go_wp2_with (go_at_call 46; refine (eqPrcS_l _ _ _ _ _ P F _ _ _ (HA.out.below (((Below.refl w.heap.size w).alloc (Nat.le_refl _) _).alloc (by simp only [World.size_alloc]; omega) _)) (HB.out.below (((Below.refl w.heap.size w).alloc (Nat.le_refl _) _).alloc (by simp only [World.size_alloc]; omega) _)) hl HN.out).mono ?_; rintro e w1 ⟨rfl, hb⟩; have hS : Below w.heap.size w w1 := below_on (((Below.refl w.heap.size w).alloc (Nat.le_refl _) _).alloc (by simp only [World.size_alloc]; omega) _) hb; clear hb)
  all_goals (go_ret; exact ⟨rfl, hS⟩)
end Go.Proofs.Ythbbakmohcjblaa
