/-
  No cell of these rows narrows 'for every input' (looked for: loops, veiled, ifaces, maps, wideKeys, modest, calm, conditions, laid).
  DERIVED. THE GIVEN ROWS OF THIS SEAT. 6 by the template 'for every input the law returns true; each argument reads behind the call as it read before'; 0 by the template 'total and deterministic' (their statements: YthbbakmohcjblaaTotals.lean).
  GIVEN WITH THE SEED: the statements are not yours to turn. If you find one false, say at which input.
  Laid BY PROGRAM, IN A SANDBOX (cutbox-rows.mjs): the forced cells as the released guide's own fill.sh prints them over the translation 37d89179c8d047a8… (all of the seat's roots in one cut). By AI agents, Wed Nov 11 2026. No macro, syntax, notation, axiom, sorry.
-/
import Derived.Test.YthbbakmohcjblaaChecked
import GoSem.Claim
import GoSem.ClaimJoined
import GoSem.ClaimMapViews
import Derived.JoinedTies
import Derived.KernelRfl
namespace Go.Proofs.Ythbbakmohcjblaa
/- THE CELL 'sum', in the pinned program and in every row, IS THE sha256 OF THE DUMP (.gsa) THAT YthbbakmohcjblaaProg.lean LOADS. Nothing in Lean hashes anything: it is a label: what it is worth is what the hold of that sum in a sandbox is worth. -/
noncomputable def Try.pinned : Pinned := { name := "ythbbakmohcjblaa", sum := "37d89179c8d047a8688a024c1c549a4c57ad0751a5ebb63a3f2f4dccd67dcbc3", checked := Try.checked }
namespace Rows
def none {H : Type} : Left H := { results := [], args := [] }

/-- 'laws.FnExactAbsOk': WHATEVER THE INPUT: true; the input reads as it did. -/
def fnExactAbsOkSpec : ChangeSpec := { name := "fnExactAbsOk", fn := fun _ => fun
  | [d] => { results := [.lit (.bool true)], args := [d] }
  | _ => none }
def fnExactAbsOkRow : OpenClaim := { program := "ythbbakmohcjblaa", sum := "37d89179c8d047a8688a024c1c549a4c57ad0751a5ebb63a3f2f4dccd67dcbc3", func := "loop.example/outwork/laws.FnExactAbsOk", spec := "fnExactAbsOk", unfollowed := true, recurses := true, apart := false }
def FnExactAbsOkSaid : Prop := fnExactAbsOkRow.holds Try.pinned (OpenSpec.ofChange fnExactAbsOkSpec)

/-- ITS FALSE NEIGHBOUR: 'it returns false'. Refute it at one input. -/
def fnExactAbsOkWrong : ChangeSpec := { name := "fnExactAbsOk", fn := fun _ => fun
  | [d] => { results := [.lit (.bool false)], args := [d] }
  | _ => none }
def FnExactAbsOkWrongFalsely : Prop := fnExactAbsOkRow.holds Try.pinned (OpenSpec.ofChange fnExactAbsOkWrong)

/-- 'laws.FnExactAbsIn': WHATEVER THE INPUT: true; the input reads as it did. -/
def fnExactAbsInSpec : ChangeSpec := { name := "fnExactAbsIn", fn := fun _ => fun
  | [d1, d2] => { results := [.lit (.bool true)], args := [d1, d2] }
  | _ => none }
def fnExactAbsInRow : OpenClaim := { program := "ythbbakmohcjblaa", sum := "37d89179c8d047a8688a024c1c549a4c57ad0751a5ebb63a3f2f4dccd67dcbc3", func := "loop.example/outwork/laws.FnExactAbsIn", spec := "fnExactAbsIn", unfollowed := true, recurses := true, apart := false }
def FnExactAbsInSaid : Prop := fnExactAbsInRow.holds Try.pinned (OpenSpec.ofChange fnExactAbsInSpec)

/-- ITS FALSE NEIGHBOUR: 'it returns false'. Refute it at one input. -/
def fnExactAbsInWrong : ChangeSpec := { name := "fnExactAbsIn", fn := fun _ => fun
  | [d1, d2] => { results := [.lit (.bool false)], args := [d1, d2] }
  | _ => none }
def FnExactAbsInWrongFalsely : Prop := fnExactAbsInRow.holds Try.pinned (OpenSpec.ofChange fnExactAbsInWrong)

/-- 'laws.FnExactAbsOut': WHATEVER THE INPUT: true; the input reads as it did. -/
def fnExactAbsOutSpec : ChangeSpec := { name := "fnExactAbsOut", fn := fun _ => fun
  | [d1, d2] => { results := [.lit (.bool true)], args := [d1, d2] }
  | _ => none }
def fnExactAbsOutRow : OpenClaim := { program := "ythbbakmohcjblaa", sum := "37d89179c8d047a8688a024c1c549a4c57ad0751a5ebb63a3f2f4dccd67dcbc3", func := "loop.example/outwork/laws.FnExactAbsOut", spec := "fnExactAbsOut", unfollowed := true, recurses := true, apart := false }
def FnExactAbsOutSaid : Prop := fnExactAbsOutRow.holds Try.pinned (OpenSpec.ofChange fnExactAbsOutSpec)

/-- ITS FALSE NEIGHBOUR: 'it returns false'. Refute it at one input. -/
def fnExactAbsOutWrong : ChangeSpec := { name := "fnExactAbsOut", fn := fun _ => fun
  | [d1, d2] => { results := [.lit (.bool false)], args := [d1, d2] }
  | _ => none }
def FnExactAbsOutWrongFalsely : Prop := fnExactAbsOutRow.holds Try.pinned (OpenSpec.ofChange fnExactAbsOutWrong)

/-- 'laws.FnExactPrgSize': WHATEVER THE INPUT: true; the input reads as it did. -/
def fnExactPrgSizeSpec : ChangeSpec := { name := "fnExactPrgSize", fn := fun _ => fun
  | [d] => { results := [.lit (.bool true)], args := [d] }
  | _ => none }
def fnExactPrgSizeRow : OpenClaim := { program := "ythbbakmohcjblaa", sum := "37d89179c8d047a8688a024c1c549a4c57ad0751a5ebb63a3f2f4dccd67dcbc3", func := "loop.example/outwork/laws.FnExactPrgSize", spec := "fnExactPrgSize", apart := false }
def FnExactPrgSizeSaid : Prop := fnExactPrgSizeRow.holds Try.pinned (OpenSpec.ofChange fnExactPrgSizeSpec)

/-- ITS FALSE NEIGHBOUR: 'it returns false'. Refute it at one input. -/
def fnExactPrgSizeWrong : ChangeSpec := { name := "fnExactPrgSize", fn := fun _ => fun
  | [d] => { results := [.lit (.bool false)], args := [d] }
  | _ => none }
def FnExactPrgSizeWrongFalsely : Prop := fnExactPrgSizeRow.holds Try.pinned (OpenSpec.ofChange fnExactPrgSizeWrong)

/-- 'laws.FnExactPrgAt': WHATEVER THE INPUT: true; the input reads as it did. -/
def fnExactPrgAtSpec : ChangeSpec := { name := "fnExactPrgAt", fn := fun _ => fun
  | [d1, d2, d3] => { results := [.lit (.bool true)], args := [d1, d2, d3] }
  | _ => none }
def fnExactPrgAtRow : OpenClaim := { program := "ythbbakmohcjblaa", sum := "37d89179c8d047a8688a024c1c549a4c57ad0751a5ebb63a3f2f4dccd67dcbc3", func := "loop.example/outwork/laws.FnExactPrgAt", spec := "fnExactPrgAt", apart := false }
def FnExactPrgAtSaid : Prop := fnExactPrgAtRow.holds Try.pinned (OpenSpec.ofChange fnExactPrgAtSpec)

/-- ITS FALSE NEIGHBOUR: 'it returns false'. Refute it at one input. -/
def fnExactPrgAtWrong : ChangeSpec := { name := "fnExactPrgAt", fn := fun _ => fun
  | [d1, d2, d3] => { results := [.lit (.bool false)], args := [d1, d2, d3] }
  | _ => none }
def FnExactPrgAtWrongFalsely : Prop := fnExactPrgAtRow.holds Try.pinned (OpenSpec.ofChange fnExactPrgAtWrong)

/-- 'laws.FnExactAbsHas': WHATEVER THE INPUT: true; the input reads as it did. -/
def fnExactAbsHasSpec : ChangeSpec := { name := "fnExactAbsHas", fn := fun _ => fun
  | [d1, d2, d3] => { results := [.lit (.bool true)], args := [d1, d2, d3] }
  | _ => none }
def fnExactAbsHasRow : OpenClaim := { program := "ythbbakmohcjblaa", sum := "37d89179c8d047a8688a024c1c549a4c57ad0751a5ebb63a3f2f4dccd67dcbc3", func := "loop.example/outwork/laws.FnExactAbsHas", spec := "fnExactAbsHas", unfollowed := true, recurses := true, apart := false }
def FnExactAbsHasSaid : Prop := fnExactAbsHasRow.holds Try.pinned (OpenSpec.ofChange fnExactAbsHasSpec)

/-- ITS FALSE NEIGHBOUR: 'it returns false'. Refute it at one input. -/
def fnExactAbsHasWrong : ChangeSpec := { name := "fnExactAbsHas", fn := fun _ => fun
  | [d1, d2, d3] => { results := [.lit (.bool false)], args := [d1, d2, d3] }
  | _ => none }
def FnExactAbsHasWrongFalsely : Prop := fnExactAbsHasRow.holds Try.pinned (OpenSpec.ofChange fnExactAbsHasWrong)

/- THE SECOND FORM. 'bulk': how many values and letters a reading holds, each counted each time it is reached (what is shared counts as often as it is met; a slice's spare places count too). A statement '..UptoSaid' is the law's where the arguments, and the package variables that the reading takes, are together of bulk at most 1048576: NARROWER than '..Said'. Prove '..Said' where nothing that the law and all that it calls make is longer than what came in: it says more and counts as full. Else prove '..UptoSaid'. A law counts once. -/
mutual
def uptoBulk {H : Type} : DataW H → Nat
  | .lit (.string bytes) => bytes.length + 1
  | .lit _ => 1
  | .nil => 1
  | .ptr d => uptoBulk d + 1
  | .slice elems spare => uptoBulkAll elems + uptoBulkAll spare + 1
  | .agg parts => uptoBulkAll parts + 1
  | .iface _ d => uptoBulk d + 1
  | .map entries => uptoBulkEntries entries + 1
  | .held _ => 1
def uptoBulkAll {H : Type} : List (DataW H) → Nat
  | [] => 0
  | d :: r => uptoBulk d + uptoBulkAll r
def uptoBulkEntries {H : Type} : List (Lit × DataW H) → Nat
  | [] => 0
  | x :: r => uptoBulkEntry x + uptoBulkEntries r
def uptoBulkEntry {H : Type} : Lit × DataW H → Nat
  | (.string bytes, d) => bytes.length + uptoBulk d + 1
  | (_, d) => uptoBulk d + 1
 end
def uptoSmall : (H : Type) → List (DataW H) → Bool := fun _ ds => decide (uptoBulkAll ds ≤ 1048576)
def OpenSpec.upto (s : _root_.Go.ChangeSpec) : _root_.Go.OpenSpec := { _root_.Go.OpenSpec.ofChange s with cond := some uptoSmall }

/-- 'laws.FnExactAbsOk', WHERE WHAT IT READS IS OF BULK AT MOST 1048576: true; the input reads as it did. -/
def fnExactAbsOkUptoRow : OpenClaim := { program := "ythbbakmohcjblaa", sum := "37d89179c8d047a8688a024c1c549a4c57ad0751a5ebb63a3f2f4dccd67dcbc3", func := "loop.example/outwork/laws.FnExactAbsOk", spec := "fnExactAbsOk", unfollowed := true, recurses := true, apart := false, narrowed := true }
def FnExactAbsOkUptoSaid : Prop := fnExactAbsOkUptoRow.holds Try.pinned (OpenSpec.upto fnExactAbsOkSpec)

/-- 'laws.FnExactAbsIn', WHERE WHAT IT READS IS OF BULK AT MOST 1048576: true; the input reads as it did. -/
def fnExactAbsInUptoRow : OpenClaim := { program := "ythbbakmohcjblaa", sum := "37d89179c8d047a8688a024c1c549a4c57ad0751a5ebb63a3f2f4dccd67dcbc3", func := "loop.example/outwork/laws.FnExactAbsIn", spec := "fnExactAbsIn", unfollowed := true, recurses := true, apart := false, narrowed := true }
def FnExactAbsInUptoSaid : Prop := fnExactAbsInUptoRow.holds Try.pinned (OpenSpec.upto fnExactAbsInSpec)

/-- 'laws.FnExactAbsOut', WHERE WHAT IT READS IS OF BULK AT MOST 1048576: true; the input reads as it did. -/
def fnExactAbsOutUptoRow : OpenClaim := { program := "ythbbakmohcjblaa", sum := "37d89179c8d047a8688a024c1c549a4c57ad0751a5ebb63a3f2f4dccd67dcbc3", func := "loop.example/outwork/laws.FnExactAbsOut", spec := "fnExactAbsOut", unfollowed := true, recurses := true, apart := false, narrowed := true }
def FnExactAbsOutUptoSaid : Prop := fnExactAbsOutUptoRow.holds Try.pinned (OpenSpec.upto fnExactAbsOutSpec)

/-- 'laws.FnExactPrgSize', WHERE WHAT IT READS IS OF BULK AT MOST 1048576: true; the input reads as it did. -/
def fnExactPrgSizeUptoRow : OpenClaim := { program := "ythbbakmohcjblaa", sum := "37d89179c8d047a8688a024c1c549a4c57ad0751a5ebb63a3f2f4dccd67dcbc3", func := "loop.example/outwork/laws.FnExactPrgSize", spec := "fnExactPrgSize", apart := false, narrowed := true }
def FnExactPrgSizeUptoSaid : Prop := fnExactPrgSizeUptoRow.holds Try.pinned (OpenSpec.upto fnExactPrgSizeSpec)

/-- 'laws.FnExactPrgAt', WHERE WHAT IT READS IS OF BULK AT MOST 1048576: true; the input reads as it did. -/
def fnExactPrgAtUptoRow : OpenClaim := { program := "ythbbakmohcjblaa", sum := "37d89179c8d047a8688a024c1c549a4c57ad0751a5ebb63a3f2f4dccd67dcbc3", func := "loop.example/outwork/laws.FnExactPrgAt", spec := "fnExactPrgAt", apart := false, narrowed := true }
def FnExactPrgAtUptoSaid : Prop := fnExactPrgAtUptoRow.holds Try.pinned (OpenSpec.upto fnExactPrgAtSpec)

/-- 'laws.FnExactAbsHas', WHERE WHAT IT READS IS OF BULK AT MOST 1048576: true; the input reads as it did. -/
def fnExactAbsHasUptoRow : OpenClaim := { program := "ythbbakmohcjblaa", sum := "37d89179c8d047a8688a024c1c549a4c57ad0751a5ebb63a3f2f4dccd67dcbc3", func := "loop.example/outwork/laws.FnExactAbsHas", spec := "fnExactAbsHas", unfollowed := true, recurses := true, apart := false, narrowed := true }
def FnExactAbsHasUptoSaid : Prop := fnExactAbsHasUptoRow.holds Try.pinned (OpenSpec.upto fnExactAbsHasSpec)

end Rows
end Go.Proofs.Ythbbakmohcjblaa
