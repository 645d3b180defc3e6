/-
  How the laws weigh two states: owState of two that are the same. No conditions but those that each theorem says.
-/
import Derived.Test.YtdpooiiacdfpkaaAj
namespace Go.Proofs.Ytdpooiiacdfpkaa
set_option linter.unusedSimpArgs false
set_option linter.unusedVariables false
open Go.ChangeShapes Go.WideShapes Go.ChangeAt Go.RowKit Go.Sort

/-- Two boxes of a state. -/
def TwoS (w : World) (on : Bool) (lo hi : Int) (v u : Value) (wr : World) : Prop := Below w.heap.size w wr ∧ Blk wr w.heap.size 29 #[.bool on, v, .int .i64 lo, .int .i64 hi] ∧ Blk wr (w.heap.size + 1) 29 #[.bool on, u, .int .i64 lo, .int .i64 hi]
theorem TwoS.drew {w wr : World} {on : Bool} {lo hi : Int} {v u : Value} (h : TwoS w on lo hi v u wr) : TwoS w on lo hi v u wr.drew := ⟨h.1.drew, h.2.1.below (Below.refl _ _).drew, h.2.2.below (Below.refl _ _).drew⟩
set_option maxRecDepth 100000 in
set_option maxHeartbeats 4000000 in
theorem owState_t (on : Bool) (a b : Option Addr) (len ca cb : Nat) (lo hi : Int) (z : List (Int × Int)) (w : World) (hza : RdI w a len z) (hzb : RdI w b len z) (hl : len ≤ 1048576) : Calls Try.prog 23 #[.agg #[.bool on, .slice a len ca, .int .i64 lo, .int .i64 hi], .agg #[.bool on, .slice b len cb, .int .i64 lo, .int .i64 hi]] w fun e w' => e = .returned (.bool true) ∧ Below w.heap.size w w' := by
  have HA := Lib.hid hza
  have HB := Lib.hid hzb
  have hlk : (len : Int) ≤ 1048576 := by omega
  clear hza hzb
  have hT0 : TwoS w on lo hi (.slice a len ca) (.slice b len cb) ((w.alloc (.cells #[.bool on, .slice a len ca, .int .i64 lo, .int .i64 hi] 29)).alloc (.cells #[.bool on, .slice b len cb, .int .i64 lo, .int .i64 hi] 29)) := ⟨((Below.refl _ _).alloc (Nat.le_refl _) _).alloc (by simp only [World.size_alloc]; omega) _, (Blk.new _ _ _).alloc _, Blk.new_at (by simp only [World.size_alloc])⟩
  have HT0 := Lib.hid hT0
  clear hT0
  go_enter Try.func23, Try.ntmps23
  go_wp2_with fail
  go_loopw [5] (fun i wr => ∃ k : Nat, k ≤ len ∧ i = .int .i64 k ∧ Hid (TwoS w on lo hi (.slice a len ca) (.slice b len cb) wr)) (fun i _ => len - (intOf i).toNat)
  case atStart => exact ⟨0, by omega, rfl, HT0⟩
  case round =>
    clear HT0
    obtain ⟨k, hk, rfl, hH⟩ := hrel
    have hj := hH.out
    obtain ⟨c0, c1, c2, c3⟩ := hj.2.1.four
    obtain ⟨d0, d1, d2, d3⟩ := hj.2.2.four
    have hz := hj.2.2.lt
    by_cases hlt : k < len
    · obtain ⟨x, rfl, hx⟩ : ∃ x, a = some x ∧ ∀ i, i < len → wr.cell? (x.add (i * 2)) = some (.int .i64 (z.getD i (0, 0)).1) ∧ wr.cell? ⟨(x.add (i * 2)).block, (x.add (i * 2)).off + 1, none⟩ = some (.int .i64 (z.getD i (0, 0)).2) := by
        rcases (HA.out.below hj.1).2 with h | h
        · omega
        · exact h
      obtain ⟨y, rfl, hy⟩ : ∃ x, b = some x ∧ ∀ i, i < len → wr.cell? (x.add (i * 2)) = some (.int .i64 (z.getD i (0, 0)).1) ∧ wr.cell? ⟨(x.add (i * 2)).block, (x.add (i * 2)).off + 1, none⟩ = some (.int .i64 (z.getD i (0, 0)).2) := by
        rcases (HB.out.below hj.1).2 with h | h
        · omega
        · exact h
      obtain ⟨hx0, hx1⟩ := hx k hlt
      obtain ⟨hy0, hy1⟩ := hy k hlt
      obtain ⟨⟨lo', hi'⟩, hq⟩ : ∃ q, q = z.getD k (0, 0) := ⟨_, rfl⟩
      rw [← hq] at hx0 hx1 hy0 hy1
      simp only at hx0 hx1 hy0 hy1
      have j0 : (0 : Int) ≤ k := by omega
      have j1 : (k : Int) < len := by omega
      clear hq hx hy hj
      go_wp2_with fail
      go_region
      go_wp2_with fail
      go_roundw
      case rel => exact ⟨k + 1, by omega, by go_num, Lib.hid hH.out.drew⟩
      case measure => simp [intOf] <;> omega
    · have hS := hj.1
      clear hj
      go_wp2_with fail
      go_ret
      exact ⟨rfl, hS⟩
end Go.Proofs.Ytdpooiiacdfpkaa
