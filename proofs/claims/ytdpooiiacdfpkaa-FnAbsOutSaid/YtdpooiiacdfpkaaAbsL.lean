/-
  What the laws on abstract states share. No conditions but those that each theorem says.
-/
import Derived.Test.YtdpooiiacdfpkaaAbs2
import Derived.Deep.Slices
import Derived.Deep.Fields
import Derived.ChangeArms
namespace Go.Proofs.Ytdpooiiacdfpkaa
set_option linter.unusedSimpArgs false
set_option linter.unusedVariables false
open Go.ChangeShapes Go.WideShapes Go.ChangeAt Go.RowKit Go.Sort

theorem szAbs_ok (on : Bool) (a : Option Addr) (len cap : Nat) (lo hi n r : Int) (hr : r = n - len) (h0 : 0 ≤ r) (hn : n ≤ 1048576) (w : World) : Calls Try.prog 13 #[.agg #[.bool on, .slice a len cap, .int .i64 lo, .int .i64 hi], .int .i64 n] w fun e w' => e = .returned (.int .i64 r) ∧ Below w.heap.size w w' := by
  have k := szAbs_l on a len cap lo hi n ⟨by omega, hn⟩ (by unfold maxLen; omega) w
  rw [if_neg (by omega), ← hr] at k
  exact k
theorem szAbs_no (on : Bool) (a : Option Addr) (len cap : Nat) (lo hi n : Int) (h0 : 0 ≤ n) (hn : n ≤ 1048576) (hl : n < len) (hm : len ≤ maxLen) (w : World) : Calls Try.prog 13 #[.agg #[.bool on, .slice a len cap, .int .i64 lo, .int .i64 hi], .int .i64 n] w fun e w' => e = .returned (.int .i64 (-1)) ∧ Below w.heap.size w w' := by
  have k := szAbs_l on a len cap lo hi n ⟨h0, hn⟩ hm w
  rw [if_pos hl] at k
  exact k
section
variable {H : Type} {enc : TypeId × Value → H} {w : World} {base : Nat} {spare : Nat → Bool} {held : Bool}
set_option maxRecDepth 100000 in
theorem open_pair {fuel : Nat} {c0 c1 : Value} {x : DataW H × List MemPlace} (h : DataW.trod enc Try.prog w base spare held fuel 39 [c0, c1] = some x) : ∃ q : Int × Int, c0 = .int .i64 q.1 ∧ c1 = .int .i64 q.2 := by
  obtain ⟨xs, n', _, _, _, hxl, hg⟩ := DataW.trod_struct Try.underlying39 h
  have g0 := hg 0 _ rfl
  have g1 := hg 1 _ rfl
  have k1 : Try.prog.cellsOf 3 = 1 := by kernel_rfl
  simp [k1] at g0 g1 hxl
  rw [List.getElem?_eq_getElem (by omega)] at g0 g1
  obtain ⟨q0, e0, _, _⟩ := DataW.trod_int Try.underlying3 g0
  obtain ⟨q1, e1, _, _⟩ := DataW.trod_int Try.underlying3 g1
  simp at e0 e1
  exact ⟨(q0, q1), e0, e1⟩
set_option maxRecDepth 100000 in
/-- The slice of bounds of a law's argument. -/
theorem open_itvs {fuel : Nat} {cs : List Value} {x : DataW H × List MemPlace} (h : DataW.trod enc Try.prog w base spare held fuel 38 cs = some x) : ∃ (a : Option Addr) (len cap : Nat) (z : List (Int × Int)), cs = [.slice a len cap] ∧ len ≤ maxLen ∧ RdI w a len z := by
  rcases Go.Deep.open_slice Try.underlying38 h with ⟨hcs, _⟩ | ⟨b, len, cap, m, n, D, Pl, hcs, _, hl, hm, hmm, _, hi⟩
  · exact ⟨none, 0, 0, [], hcs, Nat.zero_le _, rfl, .inl rfl⟩
  · have hc2 : Try.prog.cellsOf 39 = 2 := by kernel_rfl
    have hlm : len ≤ m := by rw [hmm]; split <;> omega
    have hq : ∀ i : Nat, ∃ q : Int × Int, i < len → w.cell? (b.add (i * 2)) = some (.int .i64 q.1) ∧ w.cell? ⟨(b.add (i * 2)).block, (b.add (i * 2)).off + 1, none⟩ = some (.int .i64 q.2) := fun i => by
      by_cases hil : i < len
      · obtain ⟨cs', hc, ht⟩ := hi i (by omega)
        rw [hc2] at hc
        obtain ⟨_, hlen, hat⟩ := World.cells?_some hc
        match cs', hlen with
        | [c0, c1], _ =>
          have h0 := hat 0 (by omega)
          have h1 := hat 1 (by omega)
          obtain ⟨q, e0, e1⟩ := open_pair ht
          subst e0 e1
          refine ⟨q, fun _ => ⟨?_, ?_⟩⟩
          · simpa [Addr.add] using h0
          · simpa [Addr.add] using h1
      · exact ⟨(0, 0), fun hh => absurd hh hil⟩
    obtain ⟨f, hf⟩ := Classical.axiomOfChoice hq
    refine ⟨some b, len, cap, (List.range len).map f, hcs, by omega, by simp, .inr ⟨b, rfl, fun i hil => ?_⟩⟩
    have : ((List.range len).map f).getD i (0, 0) = f i := by simp [List.getD_eq_getElem?_getD, hil]
    rw [this]
    exact hf i hil
set_option maxRecDepth 100000 in
/-- A law's argument that is a state. -/
theorem open_abs {r : Reach} {b0 : Nat} {v : Value} {d : DataW H} {p : List MemPlace} (hv : Value.okWide Try.prog w r b0 41 v) (h : DataW.Trod enc Try.prog w base spare held 41 v d p) :
    ∃ (on : Bool) (a : Option Addr) (len cap : Nat) (lo hi : Int) (z : List (Int × Int)), v = .agg #[.bool on, .slice a len cap, .int .i64 lo, .int .i64 hi] ∧ RdI w a len z ∧ len ≤ maxLen := by
  obtain ⟨cs, rfl, hsz⟩ := okWide_struct Try.underlying41 hv
  have hc4 : Try.prog.cellsOf 41 = 4 := by kernel_rfl
  rw [hc4] at hsz
  obtain ⟨l⟩ := cs
  match l, hsz with
  | [c0, c1, c2, c3], _ =>
    obtain ⟨fuel, hf⟩ := h
    obtain ⟨xs, n, _, _, _, hxl, hg⟩ := DataW.trod_struct Try.underlying41 hf
    have g0 := hg 0 _ rfl
    have g1 := hg 1 _ rfl
    have g2 := hg 2 _ rfl
    have k1 : Try.prog.cellsOf 4 = 1 := by kernel_rfl
    have k2 : Try.prog.cellsOf 38 = 1 := by kernel_rfl
    have k3 : Try.prog.cellsOf 39 = 2 := by kernel_rfl
    simp [Value.cells, k1, k2, k3] at g0 g1 g2 hxl
    rw [List.getElem?_eq_getElem (by omega)] at g0 g1 g2
    obtain ⟨on, e0, _⟩ := DataW.trod_bool Try.underlying4 g0
    obtain ⟨a, len, cap, z, e1, hm, hz⟩ := open_itvs g1
    obtain ⟨⟨lo, hi⟩, e2, e3⟩ := open_pair g2
    simp at e0 e1 e2 e3
    subst e0 e1 e2 e3
    exact ⟨on, a, len, cap, lo, hi, z, rfl, hz, hm⟩
end
end Go.Proofs.Ytdpooiiacdfpkaa
