/-
  The contracts once more, each at a result that is known: so that a law's walk decides its tests. No conditions but those results.
-/
import Derived.Test.YtbkfhlppcocamaaDraw5
import Derived.Test.YtbkfhlppcocamaaFold
import Derived.Test.YtbkfhlppcocamaaPlainLaws2
namespace Go.Proofs.Ytbkfhlppcocamaa
set_option linter.unusedSimpArgs false
set_option linter.unusedVariables false
open Go.ChangeShapes Go.WideShapes Go.ChangeAt Go.RowKit

theorem s2_mk {W0 w' : World} (h : Below W0.heap.size W0 w') : Below W0.heap.size W0 w' ∧ (∀ b o, b < W0.heap.size → w'.cell? ⟨b, o, none⟩ = W0.cell? ⟨b, o, none⟩) ∧ W0.heap.size ≤ w'.heap.size := ⟨h, fun b o hb => h.cell (p := ⟨b, o, none⟩) hb, h.size⟩
theorem le_of_S2 {P Q : Prop} {n m k : Nat} (h : P ∧ Q ∧ n ≤ m) (h2 : m ≤ k) : n ≤ k := Nat.le_trans h.2.2 h2
theorem IsRow.below {k : IntKind} {w w' : World} {a : Option Addr} {len cap : Nat} {z : List Int} (h : IsRow k w a len cap z) (hb : Below w.heap.size w w') : IsRow k w' a len cap z :=
  h.mono fun p v _ hv => (hb.cell (World.block_lt_of_cell? w _ hv)).trans hv
theorem join_at {al ah bl bh jl jh : Int} (h : joinI (al, ah) (bl, bh) = (jl, jh)) (w : World) : Calls Try.prog 30 #[.agg #[.int .i64 al, .int .i64 ah], .agg #[.int .i64 bl, .int .i64 bh]] w fun e w' => e = .returned (.agg #[.int .i64 jl, .int .i64 jh]) ∧ Below w.heap.size w w' := by
  have k := itvJoin_i al ah bl bh w
  rw [h] at k
  exact k
theorem join_s_at {al ah bl bh jl jh : Int} (h : joinI (al, ah) (bl, bh) = (jl, jh)) (w : World) : Calls Try.prog 32 #[.agg #[.int .i64 al, .int .i64 ah], .agg #[.int .i64 bl, .int .i64 bh]] w fun e w' => e = .returned (.agg #[.int .i64 jl, .int .i64 jh]) ∧ Below w.heap.size w w' := by
  have k := itvJoin_s al ah bl bh w
  rw [h] at k
  exact k
theorem in_at {al ah bl bh : Int} {x : Bool} (h : inI (al, ah) (bl, bh) = x) (w : World) : Calls Try.prog 25 #[.agg #[.int .i64 al, .int .i64 ah], .agg #[.int .i64 bl, .int .i64 bh]] w fun e w' => e = .returned (.bool x) ∧ Below w.heap.size w w' := by
  have k := itvIn_i al ah bl bh w
  rw [h] at k
  exact k
theorem in_s_at {al ah bl bh : Int} {x : Bool} (h : inI (al, ah) (bl, bh) = x) (w : World) : Calls Try.prog 26 #[.agg #[.int .i64 al, .int .i64 ah], .agg #[.int .i64 bl, .int .i64 bh]] w fun e w' => e = .returned (.bool x) ∧ Below w.heap.size w w' := by
  have k := itvIn_s al ah bl bh w
  rw [h] at k
  exact k
theorem ok_s_at {al ah : Int} {x : Bool} (h : okI (al, ah) = x) (w : World) : Calls Try.prog 27 #[.agg #[.int .i64 al, .int .i64 ah]] w fun e w' => e = .returned (.bool x) ∧ Below w.heap.size w w' := by
  have k := itvOk_s al ah w
  rw [h] at k
  exact k
end Go.Proofs.Ytbkfhlppcocamaa
