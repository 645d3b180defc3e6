/-
  A law's argument that is a program. No conditions but those that each theorem says.
-/
import Derived.Test.YthbbakmohcjblaaPrg8
import Derived.Test.YthbbakmohcjblaaAbsL
namespace Go.Proofs.Ythbbakmohcjblaa
set_option linter.unusedSimpArgs false
set_option linter.unusedVariables false
open Go.ChangeShapes Go.WideShapes Go.ChangeAt Go.RowKit Go.Sort

section
variable {H : Type} {enc : TypeId × Value → H} {w : World} {base : Nat} {spare : Nat → Bool} {held : Bool}
set_option maxRecDepth 100000 in
set_option maxHeartbeats 1000000 in
theorem open_ins8 {fuel : Nat} {cs : List Value} {x : DataW H × List MemPlace} (h : DataW.trod enc Try.prog w base spare held fuel 38 cs = Option.some x) : ∃ f : Nat → Int, ∀ j, j < 8 → cs[j]? = Option.some (.int .i64 (f j)) := by
  obtain ⟨xs, n, _, _, hlen, hxl, hg⟩ := DataW.trod_struct Try.underlying38 h
  have hc : Try.prog.cellsOf 38 = 8 := by kernel_rfl
  rw [hc] at hlen
  match cs, hlen with
  | [c0, c1, c2, c3, c4, c5, c6, c7], _ =>
    have k1 : Try.prog.cellsOf 3 = 1 := by kernel_rfl
    have g0 := hg 0 _ rfl
    have g1 := hg 1 _ rfl
    have g2 := hg 2 _ rfl
    have g3 := hg 3 _ rfl
    have g4 := hg 4 _ rfl
    have g5 := hg 5 _ rfl
    have g6 := hg 6 _ rfl
    have g7 := hg 7 _ rfl
    simp [k1] at g0 g1 g2 g3 g4 g5 g6 g7 hxl
    rw [List.getElem?_eq_getElem (by omega)] at g0 g1 g2 g3 g4 g5 g6 g7
    obtain ⟨i0, e0, _, _⟩ := DataW.trod_int Try.underlying3 g0
    obtain ⟨i1, e1, _, _⟩ := DataW.trod_int Try.underlying3 g1
    obtain ⟨i2, e2, _, _⟩ := DataW.trod_int Try.underlying3 g2
    obtain ⟨i3, e3, _, _⟩ := DataW.trod_int Try.underlying3 g3
    obtain ⟨i4, e4, _, _⟩ := DataW.trod_int Try.underlying3 g4
    obtain ⟨i5, e5, _, _⟩ := DataW.trod_int Try.underlying3 g5
    obtain ⟨i6, e6, _, _⟩ := DataW.trod_int Try.underlying3 g6
    obtain ⟨i7, e7, _, _⟩ := DataW.trod_int Try.underlying3 g7
    simp at e0 e1 e2 e3 e4 e5 e6 e7
    subst e0 e1 e2 e3 e4 e5 e6 e7
    refine ⟨fun j => [i0, i1, i2, i3, i4, i5, i6, i7].getD j 0, fun j hj => ?_⟩
    obtain rfl | rfl | rfl | rfl | rfl | rfl | rfl | rfl : j = 0 ∨ j = 1 ∨ j = 2 ∨ j = 3 ∨ j = 4 ∨ j = 5 ∨ j = 6 ∨ j = 7 := by omega
    all_goals rfl
theorem add_fld (p : Addr) (j : Nat) : p.add j = fld p j := by
  cases j with
  | zero => simp [Addr.add, fld]
  | succ j => simp [Addr.add, fld]
set_option maxRecDepth 100000 in
theorem open_code {fuel : Nat} {cs : List Value} {x : DataW H × List MemPlace} (h : DataW.trod enc Try.prog w base spare held fuel 94 cs = Option.some x) : ∃ (a : Option Addr) (len cap : Nat) (F : Nat → Nat → Int), cs = [.slice a len cap] ∧ len ≤ maxLen ∧ RdC w a len F := by
  rcases Go.Deep.open_slice Try.underlying94 h with ⟨hcs, _⟩ | ⟨b, len, cap, m, n, D, Pl, hcs, _, hl, hm, hmm, _, hi⟩
  · exact ⟨none, 0, 0, fun _ _ => 0, hcs, Nat.zero_le _, .inl rfl⟩
  · have hc2 : Try.prog.cellsOf 38 = 8 := by kernel_rfl
    have hlm : len ≤ m := by rw [hmm]; split <;> omega
    have hq : ∀ i : Nat, ∃ f : Nat → Int, i < len → ∀ j, j < 8 → w.cell? (fld (b.add (i * 8)) j) = Option.some (.int .i64 (f j)) := fun i => by
      by_cases hil : i < len
      · obtain ⟨cs', hc, ht⟩ := hi i (by omega)
        rw [hc2] at hc
        obtain ⟨_, _, hat⟩ := World.cells?_some hc
        obtain ⟨f, hf⟩ := open_ins8 ht
        exact ⟨f, fun _ j hj => by rw [← add_fld, hat j hj, hf j hj]⟩
      · exact ⟨fun _ => 0, fun hh => absurd hh hil⟩
    obtain ⟨f, hf⟩ := Classical.axiomOfChoice hq
    exact ⟨Option.some b, len, cap, f, hcs, by omega, .inr ⟨b, rfl, fun i hil => hf i hil⟩⟩
set_option maxRecDepth 100000 in
theorem open_proc {fuel : Nat} {cs : List Value} {x : DataW H × List MemPlace} (h : DataW.trod enc Try.prog w base spare held fuel 96 cs = Option.some x) : ∃ (p : Prc) (F : Nat → Nat → Int), cs = [.int .i64 p.lo, .int .i64 p.hi, .slice p.b p.n p.c] ∧ p.n ≤ maxLen ∧ RdC w p.b p.n F := by
  obtain ⟨xs, n, _, _, hlen, hxl, hg⟩ := DataW.trod_struct Try.underlying96 h
  have hc : Try.prog.cellsOf 96 = 3 := by kernel_rfl
  rw [hc] at hlen
  match cs, hlen with
  | [c0, c1, c2], _ =>
    have k1 : Try.prog.cellsOf 3 = 1 := by kernel_rfl
    have k2 : Try.prog.cellsOf 94 = 1 := by kernel_rfl
    have g0 := hg 0 _ rfl
    have g1 := hg 1 _ rfl
    have g2 := hg 2 _ rfl
    simp [k1, k2] at g0 g1 g2 hxl
    rw [List.getElem?_eq_getElem (by omega)] at g0 g1 g2
    obtain ⟨i0, e0, _, _⟩ := DataW.trod_int Try.underlying3 g0
    obtain ⟨i1, e1, _, _⟩ := DataW.trod_int Try.underlying3 g1
    obtain ⟨a, len, cap, F, e2, hm, hr⟩ := open_code g2
    simp at e0 e1 e2
    subst e0 e1 e2
    exact ⟨⟨i0, i1, a, len, cap⟩, F, rfl, hm, hr⟩
set_option maxRecDepth 100000 in
theorem open_procs {fuel : Nat} {cs : List Value} {x : DataW H × List MemPlace} (h : DataW.trod enc Try.prog w base spare held fuel 46 cs = Option.some x) : ∃ (a : Option Addr) (len cap : Nat) (P : Nat → Prc) (F : Nat → Nat → Nat → Int), cs = [.slice a len cap] ∧ len ≤ maxLen ∧ RdP w a len P ∧ ∀ i, i < len → (P i).n ≤ maxLen ∧ RdC w (P i).b (P i).n (F i) := by
  rcases Go.Deep.open_slice Try.underlying46 h with ⟨hcs, _⟩ | ⟨b, len, cap, m, n, D, Pl, hcs, _, hl, hm, hmm, _, hi⟩
  · exact ⟨none, 0, 0, fun _ => ⟨0, 0, none, 0, 0⟩, fun _ _ _ => 0, hcs, Nat.zero_le _, .inl rfl, fun i hi => by omega⟩
  · have hc2 : Try.prog.cellsOf 96 = 3 := by kernel_rfl
    have hlm : len ≤ m := by rw [hmm]; split <;> omega
    have hq : ∀ i : Nat, ∃ q : Prc × (Nat → Nat → Int), i < len → (w.cell? (b.add (i * 3)) = Option.some (.int .i64 q.1.lo) ∧ w.cell? ⟨(b.add (i * 3)).block, (b.add (i * 3)).off + 1, none⟩ = Option.some (.int .i64 q.1.hi) ∧ w.cell? ⟨(b.add (i * 3)).block, (b.add (i * 3)).off + 2, none⟩ = Option.some (.slice q.1.b q.1.n q.1.c)) ∧ q.1.n ≤ maxLen ∧ RdC w q.1.b q.1.n q.2 := fun i => by
      by_cases hil : i < len
      · obtain ⟨cs', hc, ht⟩ := hi i (by omega)
        rw [hc2] at hc
        obtain ⟨_, _, hat⟩ := World.cells?_some hc
        obtain ⟨p, F, rfl, hn, hr⟩ := open_proc ht
        have h0 := hat 0 (by omega)
        have h1 := hat 1 (by omega)
        have h2 := hat 2 (by omega)
        exact ⟨(p, F), fun _ => ⟨⟨by simpa [Addr.add] using h0, by simpa [Addr.add] using h1, by simpa [Addr.add] using h2⟩, hn, hr⟩⟩
      · exact ⟨(⟨0, 0, none, 0, 0⟩, fun _ _ => 0), fun hh => absurd hh hil⟩
    obtain ⟨f, hf⟩ := Classical.axiomOfChoice hq
    exact ⟨Option.some b, len, cap, fun i => (f i).1, fun i => (f i).2, hcs, by omega, .inr ⟨b, rfl, fun i hil => (hf i hil).1⟩, fun i hil => (hf i hil).2⟩
set_option maxRecDepth 100000 in
/-- A law's argument that is a program. -/
theorem open_prg {r : Reach} {b0 : Nat} {v : Value} {d : DataW H} {p : List MemPlace} (hv : Value.okWide Try.prog w r b0 48 v) (h : DataW.Trod enc Try.prog w base spare held 48 v d p) :
    ∃ (a : Option Addr) (len cap : Nat) (P : Nat → Prc) (F : Nat → Nat → Nat → Int), v = .agg #[.slice a len cap] ∧ len ≤ maxLen ∧ RdP w a len P ∧ ∀ i, i < len → (P i).n ≤ maxLen ∧ RdC w (P i).b (P i).n (F i) := by
  obtain ⟨cs, rfl, hsz⟩ := okWide_struct Try.underlying48 hv
  have hc1 : Try.prog.cellsOf 48 = 1 := by kernel_rfl
  rw [hc1] at hsz
  obtain ⟨l⟩ := cs
  match l, hsz with
  | [c0], _ =>
    obtain ⟨fuel, hf⟩ := h
    obtain ⟨xs, n, _, _, _, hxl, hg⟩ := DataW.trod_struct Try.underlying48 hf
    have g0 := hg 0 _ rfl
    have k1 : Try.prog.cellsOf 46 = 1 := by kernel_rfl
    simp [Value.cells, k1] at g0 hxl
    rw [List.getElem?_eq_getElem (by omega)] at g0
    obtain ⟨a, len, cap, P, F, e, hm, hp, hc⟩ := open_procs g0
    simp at e
    subst e
    exact ⟨a, len, cap, P, F, rfl, hm, hp, hc⟩
end
end Go.Proofs.Ythbbakmohcjblaa
