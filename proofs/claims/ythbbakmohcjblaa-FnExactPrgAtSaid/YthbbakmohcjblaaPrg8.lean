/-
  Programs in memory, on: the laws' own copying of programs. No conditions but those that each theorem says.
-/
import Derived.Test.YthbbakmohcjblaaPrg7
namespace Go.Proofs.Ythbbakmohcjblaa
set_option linter.unusedSimpArgs false
set_option linter.unusedVariables false
open Go.ChangeShapes Go.WideShapes Go.ChangeAt Go.RowKit Go.Sort

theorem RdP.far {w : World} {g n : Nat} {P : Nat → Prc} (h : RdP w (Option.some ⟨g, 0, none⟩) n P) {p : Addr} (hp : g ≠ p.block) (u : Value) : RdP (w.setCell p u) (Option.some ⟨g, 0, none⟩) n P := by
  rcases h with h | ⟨x, hx, h⟩
  · exact .inl h
  · refine .inr ⟨x, hx, fun i hi => ?_⟩
    obtain rfl := Option.some.inj hx
    obtain ⟨h0, h1, h2⟩ := h i hi
    rw [add_none] at h0 h1 h2 ⊢
    exact ⟨(World.cell?_of_block (w := w) (Below.heap_setCell w p u _ hp)).trans h0, (World.cell?_of_block (w := w) (Below.heap_setCell w p u _ hp)).trans h1, (World.cell?_of_block (w := w) (Below.heap_setCell w p u _ hp)).trans h2⟩
theorem RdQ.far {G : Nat} {w : World} {g n : Nat} {P : Nat → Prc} {F : Nat → Nat → Nat → Int} (h : RdQ G w (Option.some ⟨g, 0, none⟩) n P F) {p : Addr} (hp : p.block < G) (hg : G ≤ g) (u : Value) : RdQ G (w.setCell p u) (Option.some ⟨g, 0, none⟩) n P F := by
  obtain ⟨P', h1, h2⟩ := h
  refine ⟨P', h1.far (by omega) u, fun i hi => ?_⟩
  obtain ⟨k0, k1, k2, k3, gi, k4, k5⟩ := h2 i hi
  refine ⟨k0, k1, k2, ?_, gi, k4, k5⟩
  rw [k4] at k3 ⊢
  exact k3.far (by omega) u
set_option maxRecDepth 100000 in
set_option maxHeartbeats 8000000 in
theorem toPrg_l (a : Option Addr) (len cap : Nat) (P : Nat → Prc) (F : Nat → Nat → Nat → Int) (w : World) (hp : RdP w a len P) (hc : ∀ i, i < len → RdC w (P i).b (P i).n (F i)) (hl : len ≤ 1048576) (hn : ∀ i, i < len → (P i).n ≤ 1048576) : Calls Try.prog 22 #[.agg #[.slice a len cap]] w fun e w' => ∃ g G, e = .returned (.agg #[.slice (Option.some ⟨g, 0, none⟩) len len]) ∧ w.heap.size ≤ g ∧ RdQ G w' (Option.some ⟨g, 0, none⟩) len P F ∧ Below w.heap.size w w' := by
  have HP := Lib.hid hp
  have HC := Lib.hid hc
  have HN := Lib.hid hn
  clear hp hc hn
  go_enter Try.func22, Try.ntmps22
  go_wp2_with (go_at_call 45; refine (toPrcS_l a len cap P F _ (HP.out.below (by go_grown)) (fun i hi => (HC.out i hi).below (by go_grown)) hl HN.out).mono ?_; rintro e w1 ⟨g, rfl, hg, hr, hb⟩; (try simp only [World.size_alloc, World.size_setCell] at hg hr); have d0 : w1.cell? ⟨w.heap.size + 1, 0, none⟩ = Option.some (Value.slice none 0 0) := (hb.cell (p := ⟨w.heap.size + 1, 0, none⟩) (by simp only [World.size_alloc, World.size_setCell]; omega)).trans (by simp [go_sem]); have fd0 : w1.frozen? ⟨w.heap.size + 1, 0, none⟩ = false := (hb.frozen (p := ⟨w.heap.size + 1, 0, none⟩) (by simp only [World.size_alloc, World.size_setCell]; omega)).trans (by simp [go_sem]); have e0 : w1.cell? ⟨w.heap.size + 1 + 1, 0, none⟩ = Option.some (Value.slice none 0 0) := (hb.cell (p := ⟨w.heap.size + 1 + 1, 0, none⟩) (by simp only [World.size_alloc, World.size_setCell]; omega)).trans (by simp [go_sem]); have fe0 : w1.frozen? ⟨w.heap.size + 1 + 1, 0, none⟩ = false := (hb.frozen (p := ⟨w.heap.size + 1 + 1, 0, none⟩) (by simp only [World.size_alloc, World.size_setCell]; omega)).trans (by simp [go_sem]); have zz := blk e0; have HR := Lib.hid hr; have hS : Below w.heap.size w w1 := below_on (by go_grown) hb; clear hb hr)
  refine bodyPost_ret (by simp [results, Try.results22, go_sem, *]; try rfl) rfl ?_
  exact ⟨g, _, rfl, by omega, (by (repeat' (first | exact HR.out | refine RdQ.far ?_ (by simp only []; omega) hg _))), (by (repeat' (first | exact hS | refine Below.setCell ?_ (by simp only []; omega) _)))⟩
end Go.Proofs.Ythbbakmohcjblaa
