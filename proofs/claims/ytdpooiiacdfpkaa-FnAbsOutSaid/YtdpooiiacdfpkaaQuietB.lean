/-
  A region that draws its order, whose operations only read and whose callees keep what was there, walked once, over one world of the law's choice. No conditions.
-/
import Derived.Test.YtdpooiiacdfpkaaBase
import Derived.Lib.QuietBelow
import Derived.BigQuiet
namespace Go.Proofs.Ytdpooiiacdfpkaa
set_option linter.unusedSimpArgs false
set_option linter.unusedVariables false
open Go.ChangeShapes Go.WideShapes Go.ChangeAt Go.RowKit Go.Sort

/-- 'wp_region_quiet_below', the class of worlds over a world of one's choice. -/
theorem region_below {P : Program} {id : Nat} {Q : Exit → Act → World → Prop} {a : Act} {w W0 : World} {l : List Oper} (hm : P.follows .mixedOrders = true) (hB : Region.lexB .any l.toArray = true) (hw : Below W0.heap.size W0 w)
    (h : wpQuiet P l.toArray (fun w' => ∃ p : Regrown, w' = grow (redrawn W0 p.d) p.os) (fun a' => ∀ w', (∃ p : Regrown, w' = grow (redrawn W0 p.d) p.os) → Q .normal a' w') l a) : (Code.region id l.toArray true).wp P Q a w :=
  wp_region_quiet (C := fun w' => ∃ p : Regrown, w' = grow (redrawn W0 p.d) p.os) hm hB (regrown_of_below hw.drew) (by simpa using h)
theorem mixed_ok : Try.prog.follows .mixedOrders = true := by kernel_rfl
/-- What a call leaves is once more a world of the class. -/
theorem regrown_on {W0 w w' : World} (h : Below W0.heap.size W0 w) (hb : Below w.heap.size w w') : ∃ p : Regrown, w' = grow (redrawn W0 p.d) p.os := regrown_of_below (below_on h hb)
theorem lt_regrown {W0 : World} {n : Nat} (h : n < W0.heap.size) (d : Nat) (os : Array Obj) : n < (grow (redrawn W0 d) os).heap.size := Nat.lt_of_lt_of_le h (below_regrown W0 d os).size
theorem frozen_regrown {W : World} {b o : Nat} {x : Bool} (h : W.frozen? ⟨b, o, none⟩ = x) (hb : b < W.heap.size) (d : Nat) (os : Array Obj) : (grow (redrawn W d) os).frozen? ⟨b, o, none⟩ = x :=
  ((below_regrown W d os).frozen (p := ⟨b, o, none⟩) hb).trans h
end Go.Proofs.Ytdpooiiacdfpkaa
