/-
  Programs in memory, on: the laws' own copying and comparing of procs. No conditions but those that each theorem says.
-/
import Derived.Test.YthbbakmohcjblaaPrg4
namespace Go.Proofs.Ythbbakmohcjblaa
set_option linter.unusedSimpArgs false
set_option linter.unusedVariables false
open Go.ChangeShapes Go.WideShapes Go.ChangeAt Go.RowKit Go.Sort

theorem RdC.far {w : World} {g n : Nat} {F : Nat → Nat → Int} (h : RdC w (Option.some ⟨g, 0, none⟩) n F) {p : Addr} (hp : g ≠ p.block) (u : Value) : RdC (w.setCell p u) (Option.some ⟨g, 0, none⟩) n F := by
  rcases h with h | ⟨x, hx, h⟩
  · exact .inl h
  · refine .inr ⟨x, hx, fun i hi j hj => ?_⟩
    obtain rfl := Option.some.inj hx
    have h1 := h i hi j hj
    rw [add_none] at h1 ⊢
    exact (World.cell?_of_block (w := w) (Below.heap_setCell w p u _ (by rw [fld_block]; exact hp))).trans h1
set_option maxRecDepth 100000 in
set_option maxHeartbeats 8000000 in
theorem toPrc_l (lo hi : Int) (a : Option Addr) (len cap : Nat) (F : Nat → Nat → Int) (w : World) (hz : RdC w a len F) (hl : len ≤ 1048576) : Calls Try.prog 59 #[.agg #[.int .i64 lo, .int .i64 hi, .slice a len cap]] w fun e w' => ∃ g, e = .returned (.agg #[.int .i64 lo, .int .i64 hi, .slice (some ⟨g, 0, none⟩) len len]) ∧ w.heap.size ≤ g ∧ RdC w' (some ⟨g, 0, none⟩) len F ∧ Below w.heap.size w w' := by
  have HZ := Lib.hid hz
  clear hz
  go_enter Try.func59, Try.ntmps59
  go_wp2_with (go_at_call 66; refine (toInsS_l a len cap F _ (HZ.out.below (by go_grown)) hl).mono ?_; rintro e w1 ⟨g, rfl, hg, hr, hb⟩; (try simp only [World.size_alloc, World.size_setCell] at hg); have d0 : w1.cell? ⟨w.heap.size + 1, 0, none⟩ = some (Value.int .i64 0) := (hb.cell (p := ⟨w.heap.size + 1, 0, none⟩) (by simp only [World.size_alloc, World.size_setCell]; omega)).trans (by simp [go_sem]); have fd0 : w1.frozen? ⟨w.heap.size + 1, 0, none⟩ = false := (hb.frozen (p := ⟨w.heap.size + 1, 0, none⟩) (by simp only [World.size_alloc, World.size_setCell]; omega)).trans (by simp [go_sem]); have d1 : w1.cell? ⟨w.heap.size + 1, 1, none⟩ = some (Value.int .i64 0) := (hb.cell (p := ⟨w.heap.size + 1, 1, none⟩) (by simp only [World.size_alloc, World.size_setCell]; omega)).trans (by simp [go_sem]); have fd1 : w1.frozen? ⟨w.heap.size + 1, 1, none⟩ = false := (hb.frozen (p := ⟨w.heap.size + 1, 1, none⟩) (by simp only [World.size_alloc, World.size_setCell]; omega)).trans (by simp [go_sem]); have d2 : w1.cell? ⟨w.heap.size + 1, 2, none⟩ = some (Value.slice none 0 0) := (hb.cell (p := ⟨w.heap.size + 1, 2, none⟩) (by simp only [World.size_alloc, World.size_setCell]; omega)).trans (by simp [go_sem]); have fd2 : w1.frozen? ⟨w.heap.size + 1, 2, none⟩ = false := (hb.frozen (p := ⟨w.heap.size + 1, 2, none⟩) (by simp only [World.size_alloc, World.size_setCell]; omega)).trans (by simp [go_sem]); have e0 : w1.cell? ⟨w.heap.size + 1 + 1, 0, none⟩ = some (Value.int .i64 lo) := (hb.cell (p := ⟨w.heap.size + 1 + 1, 0, none⟩) (by simp only [World.size_alloc, World.size_setCell]; omega)).trans (by simp [go_sem]); have fe0 : w1.frozen? ⟨w.heap.size + 1 + 1, 0, none⟩ = false := (hb.frozen (p := ⟨w.heap.size + 1 + 1, 0, none⟩) (by simp only [World.size_alloc, World.size_setCell]; omega)).trans (by simp [go_sem]); have e1 : w1.cell? ⟨w.heap.size + 1 + 1, 1, none⟩ = some (Value.int .i64 hi) := (hb.cell (p := ⟨w.heap.size + 1 + 1, 1, none⟩) (by simp only [World.size_alloc, World.size_setCell]; omega)).trans (by simp [go_sem]); have fe1 : w1.frozen? ⟨w.heap.size + 1 + 1, 1, none⟩ = false := (hb.frozen (p := ⟨w.heap.size + 1 + 1, 1, none⟩) (by simp only [World.size_alloc, World.size_setCell]; omega)).trans (by simp [go_sem]); have e2 : w1.cell? ⟨w.heap.size + 1 + 1, 2, none⟩ = some (Value.slice none 0 0) := (hb.cell (p := ⟨w.heap.size + 1 + 1, 2, none⟩) (by simp only [World.size_alloc, World.size_setCell]; omega)).trans (by simp [go_sem]); have fe2 : w1.frozen? ⟨w.heap.size + 1 + 1, 2, none⟩ = false := (hb.frozen (p := ⟨w.heap.size + 1 + 1, 2, none⟩) (by simp only [World.size_alloc, World.size_setCell]; omega)).trans (by simp [go_sem]); have zz := blk e0; have HR := Lib.hid hr; have hS : Below w.heap.size w w1 := below_on (by go_grown) hb; clear hb hr)
  refine bodyPost_ret (by simp [results, Try.results59, go_sem, *]; try rfl) rfl ?_
  exact ⟨g, rfl, by omega, (by (repeat' (first | exact HR.out | refine RdC.far ?_ (by simp only []; omega) _))), (by (repeat' (first | exact hS | refine Below.setCell ?_ (by simp only []; omega) _)))⟩
set_option maxRecDepth 100000 in
set_option maxHeartbeats 4000000 in
theorem eqPrc_l (lo hi : Int) (a b : Option Addr) (len ca cb : Nat) (F : Nat → Nat → Int) (w : World) (ha : RdC w a len F) (hb : RdC w b len F) (hl : len ≤ 1048576) : Calls Try.prog 60 #[.agg #[.int .i64 lo, .int .i64 hi, .slice a len ca], .agg #[.int .i64 lo, .int .i64 hi, .slice b len cb]] w fun e w' => e = .returned (.bool true) ∧ Below w.heap.size w w' := by
  have HA := Lib.hid ha
  have HB := Lib.hid hb
  clear ha hb
  go_enter Try.func60, Try.ntmps60
  go_wp2_with (go_at_call 67; refine (eqInsS_l _ _ _ _ _ F _ (HA.out.below (((Below.refl w.heap.size w).alloc (Nat.le_refl _) _).alloc (by simp only [World.size_alloc]; omega) _)) (HB.out.below (((Below.refl w.heap.size w).alloc (Nat.le_refl _) _).alloc (by simp only [World.size_alloc]; omega) _)) hl).mono ?_; rintro e w1 ⟨rfl, hb⟩; have hS : Below w.heap.size w w1 := below_on (((Below.refl w.heap.size w).alloc (Nat.le_refl _) _).alloc (by simp only [World.size_alloc]; omega) _) hb; clear hb)
  all_goals (go_ret; exact ⟨rfl, hS⟩)
end Go.Proofs.Ythbbakmohcjblaa
