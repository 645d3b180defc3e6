/-
  When an abstract state lies in another: the reference's AbsIn and the program's, by contract. No conditions but those that each theorem says.
-/
import Derived.Test.YtdpooiiacdfpkaaAbs5
namespace Go.Proofs.Ytdpooiiacdfpkaa
set_option linter.unusedSimpArgs false
set_option linter.unusedVariables false
open Go.ChangeShapes Go.WideShapes Go.ChangeAt Go.RowKit Go.Sort

/-- The first state lies in the second. -/
def absIn (on0 : Bool) (z0 : List (Int × Int)) (c0 : Int × Int) (on1 : Bool) (z1 : List (Int × Int)) (c1 : Int × Int) : Bool :=
  absOk on0 z0 c0 && absOk on1 z1 c1 && (!on0 || (on1 && inI c0 c1 && (List.range 4).all fun i => inI (z0.getD i (0, 0)) (z1.getD i (0, 0))))
theorem in_ix {al ah bl bh : Int} {x : Bool} (h : inI (al, ah) (bl, bh) = x) (w : World) : Calls Try.prog 65 #[.agg #[.int .i64 al, .int .i64 ah], .agg #[.int .i64 bl, .int .i64 bh]] w fun e w' => e = .returned (.bool x) ∧ Below w.heap.size w w' := by
  have k := itvIn_i al ah bl bh w
  rw [h] at k
  exact k
theorem absOk_sx {on : Bool} {a : Option Addr} {len cap : Nat} {lo hi : Int} {z : List (Int × Int)} {x : Bool} (h : absOk on z (lo, hi) = x) (w : World) (hz : RdI w a len z) (hl : len ≤ 1048576) : Calls Try.prog 11 #[.agg #[.bool on, .slice a len cap, .int .i64 lo, .int .i64 hi]] w fun e w' => e = .returned (.bool x) ∧ Below w.heap.size w w' := by
  have k := absOk_s on a len cap lo hi z w hz hl
  rw [h] at k
  exact k
theorem all_not {z0 z1 : List (Int × Int)} {k : Nat} (hk : k < 4) (h : inI (z0.getD k (0, 0)) (z1.getD k (0, 0)) = false) : ((List.range 4).all fun i => inI (z0.getD i (0, 0)) (z1.getD i (0, 0))) = false := by
  rw [List.all_eq_false]
  exact ⟨k, List.mem_range.2 hk, by rw [h]; simp⟩
theorem all_yes {z0 z1 : List (Int × Int)} (h : ∀ k, k < 4 → inI (z0.getD k (0, 0)) (z1.getD k (0, 0)) = true) : ((List.range 4).all fun i => inI (z0.getD i (0, 0)) (z1.getD i (0, 0))) = true := by
  rw [List.all_eq_true]
  exact fun k hk => h k (List.mem_range.1 hk)
theorem four_of_ok {z : List (Int × Int)} {c : Int × Int} (h : absOk true z c = true) : z.length = 4 := by
  unfold absOk at h
  simp at h
  exact h.1.1
theorem rd_some {w : World} {a : Option Addr} {len : Nat} {z : List (Int × Int)} (h : RdI w a len z) (hl : 0 < len) : ∃ x, a = some x ∧ ∀ i, i < len → w.cell? (x.add (i * 2)) = some (.int .i64 (z.getD i (0, 0)).1) ∧ w.cell? ⟨(x.add (i * 2)).block, (x.add (i * 2)).off + 1, none⟩ = some (.int .i64 (z.getD i (0, 0)).2) := by
  rcases h.2 with h | h
  · omega
  · exact h
end Go.Proofs.Ytdpooiiacdfpkaa
