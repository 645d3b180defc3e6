/-
  No cell of these rows narrows 'for every input' (looked for: loops, veiled, ifaces, maps, wideKeys, modest, calm, conditions, laid).
  DERIVED. THE GIVEN ROWS OF THIS SEAT. 8 by the template 'for every input the law returns true; each argument reads behind the call as it read before'; 0 by the template 'total and deterministic' (their statements: YtimmjejmcklofaaTotals.lean).
  GIVEN WITH THE SEED: the statements are not yours to turn. If you find one false, say at which input.
  Laid BY PROGRAM, IN A SANDBOX (cutbox-rows.mjs): the forced cells as the released guide's own fill.sh prints them over the translation e5fd29daca7a0db3… (all of the seat's roots in one cut). By AI agents, Wed Nov 11 2026. No macro, syntax, notation, axiom, sorry.
-/
import Derived.Test.YtimmjejmcklofaaChecked
import GoSem.Claim
import GoSem.ClaimJoined
import GoSem.ClaimMapViews
import Derived.JoinedTies
import Derived.KernelRfl
namespace Go.Proofs.Ytimmjejmcklofaa
/- THE CELL 'sum', in the pinned program and in every row, IS THE sha256 OF THE DUMP (.gsa) THAT YtimmjejmcklofaaProg.lean LOADS. Nothing in Lean hashes anything: it is a label: what it is worth is what the hold of that sum in a sandbox is worth. -/
noncomputable def Try.pinned : Pinned := { name := "ytimmjejmcklofaa", sum := "e5fd29daca7a0db33f88f8c666d3db2edbafe2aa6ec40613738622f775fb84cf", checked := Try.checked }
namespace Rows
def none {H : Type} : Left H := { results := [], args := [] }

/-- 'laws.FnExactItvOk': WHATEVER THE INPUT: true; the input reads as it did. -/
def fnExactItvOkSpec : ChangeSpec := { name := "fnExactItvOk", fn := fun _ => fun
  | [d] => { results := [.lit (.bool true)], args := [d] }
  | _ => none }
def fnExactItvOkRow : OpenClaim := { program := "ytimmjejmcklofaa", sum := "e5fd29daca7a0db33f88f8c666d3db2edbafe2aa6ec40613738622f775fb84cf", func := "loop.example/outwork/laws.FnExactItvOk", spec := "fnExactItvOk", apart := false }
def FnExactItvOkSaid : Prop := fnExactItvOkRow.holds Try.pinned (OpenSpec.ofChange fnExactItvOkSpec)

/-- ITS FALSE NEIGHBOUR: 'it returns false'. Refute it at one input. -/
def fnExactItvOkWrong : ChangeSpec := { name := "fnExactItvOk", fn := fun _ => fun
  | [d] => { results := [.lit (.bool false)], args := [d] }
  | _ => none }
def FnExactItvOkWrongFalsely : Prop := fnExactItvOkRow.holds Try.pinned (OpenSpec.ofChange fnExactItvOkWrong)

/-- 'laws.FnExactItvIn': WHATEVER THE INPUT: true; the input reads as it did. -/
def fnExactItvInSpec : ChangeSpec := { name := "fnExactItvIn", fn := fun _ => fun
  | [d1, d2] => { results := [.lit (.bool true)], args := [d1, d2] }
  | _ => none }
def fnExactItvInRow : OpenClaim := { program := "ytimmjejmcklofaa", sum := "e5fd29daca7a0db33f88f8c666d3db2edbafe2aa6ec40613738622f775fb84cf", func := "loop.example/outwork/laws.FnExactItvIn", spec := "fnExactItvIn", apart := false }
def FnExactItvInSaid : Prop := fnExactItvInRow.holds Try.pinned (OpenSpec.ofChange fnExactItvInSpec)

/-- ITS FALSE NEIGHBOUR: 'it returns false'. Refute it at one input. -/
def fnExactItvInWrong : ChangeSpec := { name := "fnExactItvIn", fn := fun _ => fun
  | [d1, d2] => { results := [.lit (.bool false)], args := [d1, d2] }
  | _ => none }
def FnExactItvInWrongFalsely : Prop := fnExactItvInRow.holds Try.pinned (OpenSpec.ofChange fnExactItvInWrong)

/-- 'laws.FnExactItvHas': WHATEVER THE INPUT: true; the input reads as it did. -/
def fnExactItvHasSpec : ChangeSpec := { name := "fnExactItvHas", fn := fun _ => fun
  | [d1, d2] => { results := [.lit (.bool true)], args := [d1, d2] }
  | _ => none }
def fnExactItvHasRow : OpenClaim := { program := "ytimmjejmcklofaa", sum := "e5fd29daca7a0db33f88f8c666d3db2edbafe2aa6ec40613738622f775fb84cf", func := "loop.example/outwork/laws.FnExactItvHas", spec := "fnExactItvHas", apart := false }
def FnExactItvHasSaid : Prop := fnExactItvHasRow.holds Try.pinned (OpenSpec.ofChange fnExactItvHasSpec)

/-- ITS FALSE NEIGHBOUR: 'it returns false'. Refute it at one input. -/
def fnExactItvHasWrong : ChangeSpec := { name := "fnExactItvHas", fn := fun _ => fun
  | [d1, d2] => { results := [.lit (.bool false)], args := [d1, d2] }
  | _ => none }
def FnExactItvHasWrongFalsely : Prop := fnExactItvHasRow.holds Try.pinned (OpenSpec.ofChange fnExactItvHasWrong)

/-- 'laws.FnExactRelHolds': WHATEVER THE INPUT: true; the input reads as it did. -/
def fnExactRelHoldsSpec : ChangeSpec := { name := "fnExactRelHolds", fn := fun _ => fun
  | [d1, d2, d3] => { results := [.lit (.bool true)], args := [d1, d2, d3] }
  | _ => none }
def fnExactRelHoldsRow : OpenClaim := { program := "ytimmjejmcklofaa", sum := "e5fd29daca7a0db33f88f8c666d3db2edbafe2aa6ec40613738622f775fb84cf", func := "loop.example/outwork/laws.FnExactRelHolds", spec := "fnExactRelHolds", apart := false }
def FnExactRelHoldsSaid : Prop := fnExactRelHoldsRow.holds Try.pinned (OpenSpec.ofChange fnExactRelHoldsSpec)

/-- ITS FALSE NEIGHBOUR: 'it returns false'. Refute it at one input. -/
def fnExactRelHoldsWrong : ChangeSpec := { name := "fnExactRelHolds", fn := fun _ => fun
  | [d1, d2, d3] => { results := [.lit (.bool false)], args := [d1, d2, d3] }
  | _ => none }
def FnExactRelHoldsWrongFalsely : Prop := fnExactRelHoldsRow.holds Try.pinned (OpenSpec.ofChange fnExactRelHoldsWrong)

/-- 'laws.FnExactItvJoin': WHATEVER THE INPUT: true; the input reads as it did. -/
def fnExactItvJoinSpec : ChangeSpec := { name := "fnExactItvJoin", fn := fun _ => fun
  | [d1, d2] => { results := [.lit (.bool true)], args := [d1, d2] }
  | _ => none }
def fnExactItvJoinRow : OpenClaim := { program := "ytimmjejmcklofaa", sum := "e5fd29daca7a0db33f88f8c666d3db2edbafe2aa6ec40613738622f775fb84cf", func := "loop.example/outwork/laws.FnExactItvJoin", spec := "fnExactItvJoin", apart := false }
def FnExactItvJoinSaid : Prop := fnExactItvJoinRow.holds Try.pinned (OpenSpec.ofChange fnExactItvJoinSpec)

/-- ITS FALSE NEIGHBOUR: 'it returns false'. Refute it at one input. -/
def fnExactItvJoinWrong : ChangeSpec := { name := "fnExactItvJoin", fn := fun _ => fun
  | [d1, d2] => { results := [.lit (.bool false)], args := [d1, d2] }
  | _ => none }
def FnExactItvJoinWrongFalsely : Prop := fnExactItvJoinRow.holds Try.pinned (OpenSpec.ofChange fnExactItvJoinWrong)

/-- 'laws.FnExactItvMeet': WHATEVER THE INPUT: true; the input reads as it did. -/
def fnExactItvMeetSpec : ChangeSpec := { name := "fnExactItvMeet", fn := fun _ => fun
  | [d1, d2] => { results := [.lit (.bool true)], args := [d1, d2] }
  | _ => none }
def fnExactItvMeetRow : OpenClaim := { program := "ytimmjejmcklofaa", sum := "e5fd29daca7a0db33f88f8c666d3db2edbafe2aa6ec40613738622f775fb84cf", func := "loop.example/outwork/laws.FnExactItvMeet", spec := "fnExactItvMeet", apart := false }
def FnExactItvMeetSaid : Prop := fnExactItvMeetRow.holds Try.pinned (OpenSpec.ofChange fnExactItvMeetSpec)

/-- ITS FALSE NEIGHBOUR: 'it returns false'. Refute it at one input. -/
def fnExactItvMeetWrong : ChangeSpec := { name := "fnExactItvMeet", fn := fun _ => fun
  | [d1, d2] => { results := [.lit (.bool false)], args := [d1, d2] }
  | _ => none }
def FnExactItvMeetWrongFalsely : Prop := fnExactItvMeetRow.holds Try.pinned (OpenSpec.ofChange fnExactItvMeetWrong)

/-- 'laws.FnExactItvFold': WHATEVER THE INPUT: true; the input reads as it did. -/
def fnExactItvFoldSpec : ChangeSpec := { name := "fnExactItvFold", fn := fun _ => fun
  | [d1, d2] => { results := [.lit (.bool true)], args := [d1, d2] }
  | _ => none }
def fnExactItvFoldRow : OpenClaim := { program := "ytimmjejmcklofaa", sum := "e5fd29daca7a0db33f88f8c666d3db2edbafe2aa6ec40613738622f775fb84cf", func := "loop.example/outwork/laws.FnExactItvFold", spec := "fnExactItvFold", apart := false }
def FnExactItvFoldSaid : Prop := fnExactItvFoldRow.holds Try.pinned (OpenSpec.ofChange fnExactItvFoldSpec)

/-- ITS FALSE NEIGHBOUR: 'it returns false'. Refute it at one input. -/
def fnExactItvFoldWrong : ChangeSpec := { name := "fnExactItvFold", fn := fun _ => fun
  | [d1, d2] => { results := [.lit (.bool false)], args := [d1, d2] }
  | _ => none }
def FnExactItvFoldWrongFalsely : Prop := fnExactItvFoldRow.holds Try.pinned (OpenSpec.ofChange fnExactItvFoldWrong)

/-- 'laws.FnExactItvWide': WHATEVER THE INPUT: true; the input reads as it did. -/
def fnExactItvWideSpec : ChangeSpec := { name := "fnExactItvWide", fn := fun _ => fun
  | [d1, d2] => { results := [.lit (.bool true)], args := [d1, d2] }
  | _ => none }
def fnExactItvWideRow : OpenClaim := { program := "ytimmjejmcklofaa", sum := "e5fd29daca7a0db33f88f8c666d3db2edbafe2aa6ec40613738622f775fb84cf", func := "loop.example/outwork/laws.FnExactItvWide", spec := "fnExactItvWide", apart := false }
def FnExactItvWideSaid : Prop := fnExactItvWideRow.holds Try.pinned (OpenSpec.ofChange fnExactItvWideSpec)

/-- ITS FALSE NEIGHBOUR: 'it returns false'. Refute it at one input. -/
def fnExactItvWideWrong : ChangeSpec := { name := "fnExactItvWide", fn := fun _ => fun
  | [d1, d2] => { results := [.lit (.bool false)], args := [d1, d2] }
  | _ => none }
def FnExactItvWideWrongFalsely : Prop := fnExactItvWideRow.holds Try.pinned (OpenSpec.ofChange fnExactItvWideWrong)

/- THE SECOND FORM. 'bulk': how many values and letters a reading holds, each counted each time it is reached (what is shared counts as often as it is met; a slice's spare places count too). A statement '..UptoSaid' is the law's where the arguments, and the package variables that the reading takes, are together of bulk at most 1048576: NARROWER than '..Said'. Prove '..Said' where nothing that the law and all that it calls make is longer than what came in: it says more and counts as full. Else prove '..UptoSaid'. A law counts once. -/
mutual
def uptoBulk {H : Type} : DataW H → Nat
  | .lit (.string bytes) => bytes.length + 1
  | .lit _ => 1
  | .nil => 1
  | .ptr d => uptoBulk d + 1
  | .slice elems spare => uptoBulkAll elems + uptoBulkAll spare + 1
  | .agg parts => uptoBulkAll parts + 1
  | .iface _ d => uptoBulk d + 1
  | .map entries => uptoBulkEntries entries + 1
  | .held _ => 1
def uptoBulkAll {H : Type} : List (DataW H) → Nat
  | [] => 0
  | d :: r => uptoBulk d + uptoBulkAll r
def uptoBulkEntries {H : Type} : List (Lit × DataW H) → Nat
  | [] => 0
  | x :: r => uptoBulkEntry x + uptoBulkEntries r
def uptoBulkEntry {H : Type} : Lit × DataW H → Nat
  | (.string bytes, d) => bytes.length + uptoBulk d + 1
  | (_, d) => uptoBulk d + 1
 end
def uptoSmall : (H : Type) → List (DataW H) → Bool := fun _ ds => decide (uptoBulkAll ds ≤ 1048576)
def OpenSpec.upto (s : _root_.Go.ChangeSpec) : _root_.Go.OpenSpec := { _root_.Go.OpenSpec.ofChange s with cond := some uptoSmall }

/-- 'laws.FnExactItvOk', WHERE WHAT IT READS IS OF BULK AT MOST 1048576: true; the input reads as it did. -/
def fnExactItvOkUptoRow : OpenClaim := { program := "ytimmjejmcklofaa", sum := "e5fd29daca7a0db33f88f8c666d3db2edbafe2aa6ec40613738622f775fb84cf", func := "loop.example/outwork/laws.FnExactItvOk", spec := "fnExactItvOk", apart := false, narrowed := true }
def FnExactItvOkUptoSaid : Prop := fnExactItvOkUptoRow.holds Try.pinned (OpenSpec.upto fnExactItvOkSpec)

/-- 'laws.FnExactItvIn', WHERE WHAT IT READS IS OF BULK AT MOST 1048576: true; the input reads as it did. -/
def fnExactItvInUptoRow : OpenClaim := { program := "ytimmjejmcklofaa", sum := "e5fd29daca7a0db33f88f8c666d3db2edbafe2aa6ec40613738622f775fb84cf", func := "loop.example/outwork/laws.FnExactItvIn", spec := "fnExactItvIn", apart := false, narrowed := true }
def FnExactItvInUptoSaid : Prop := fnExactItvInUptoRow.holds Try.pinned (OpenSpec.upto fnExactItvInSpec)

/-- 'laws.FnExactItvHas', WHERE WHAT IT READS IS OF BULK AT MOST 1048576: true; the input reads as it did. -/
def fnExactItvHasUptoRow : OpenClaim := { program := "ytimmjejmcklofaa", sum := "e5fd29daca7a0db33f88f8c666d3db2edbafe2aa6ec40613738622f775fb84cf", func := "loop.example/outwork/laws.FnExactItvHas", spec := "fnExactItvHas", apart := false, narrowed := true }
def FnExactItvHasUptoSaid : Prop := fnExactItvHasUptoRow.holds Try.pinned (OpenSpec.upto fnExactItvHasSpec)

/-- 'laws.FnExactRelHolds', WHERE WHAT IT READS IS OF BULK AT MOST 1048576: true; the input reads as it did. -/
def fnExactRelHoldsUptoRow : OpenClaim := { program := "ytimmjejmcklofaa", sum := "e5fd29daca7a0db33f88f8c666d3db2edbafe2aa6ec40613738622f775fb84cf", func := "loop.example/outwork/laws.FnExactRelHolds", spec := "fnExactRelHolds", apart := false, narrowed := true }
def FnExactRelHoldsUptoSaid : Prop := fnExactRelHoldsUptoRow.holds Try.pinned (OpenSpec.upto fnExactRelHoldsSpec)

/-- 'laws.FnExactItvJoin', WHERE WHAT IT READS IS OF BULK AT MOST 1048576: true; the input reads as it did. -/
def fnExactItvJoinUptoRow : OpenClaim := { program := "ytimmjejmcklofaa", sum := "e5fd29daca7a0db33f88f8c666d3db2edbafe2aa6ec40613738622f775fb84cf", func := "loop.example/outwork/laws.FnExactItvJoin", spec := "fnExactItvJoin", apart := false, narrowed := true }
def FnExactItvJoinUptoSaid : Prop := fnExactItvJoinUptoRow.holds Try.pinned (OpenSpec.upto fnExactItvJoinSpec)

/-- 'laws.FnExactItvMeet', WHERE WHAT IT READS IS OF BULK AT MOST 1048576: true; the input reads as it did. -/
def fnExactItvMeetUptoRow : OpenClaim := { program := "ytimmjejmcklofaa", sum := "e5fd29daca7a0db33f88f8c666d3db2edbafe2aa6ec40613738622f775fb84cf", func := "loop.example/outwork/laws.FnExactItvMeet", spec := "fnExactItvMeet", apart := false, narrowed := true }
def FnExactItvMeetUptoSaid : Prop := fnExactItvMeetUptoRow.holds Try.pinned (OpenSpec.upto fnExactItvMeetSpec)

/-- 'laws.FnExactItvFold', WHERE WHAT IT READS IS OF BULK AT MOST 1048576: true; the input reads as it did. -/
def fnExactItvFoldUptoRow : OpenClaim := { program := "ytimmjejmcklofaa", sum := "e5fd29daca7a0db33f88f8c666d3db2edbafe2aa6ec40613738622f775fb84cf", func := "loop.example/outwork/laws.FnExactItvFold", spec := "fnExactItvFold", apart := false, narrowed := true }
def FnExactItvFoldUptoSaid : Prop := fnExactItvFoldUptoRow.holds Try.pinned (OpenSpec.upto fnExactItvFoldSpec)

/-- 'laws.FnExactItvWide', WHERE WHAT IT READS IS OF BULK AT MOST 1048576: true; the input reads as it did. -/
def fnExactItvWideUptoRow : OpenClaim := { program := "ytimmjejmcklofaa", sum := "e5fd29daca7a0db33f88f8c666d3db2edbafe2aa6ec40613738622f775fb84cf", func := "loop.example/outwork/laws.FnExactItvWide", spec := "fnExactItvWide", apart := false, narrowed := true }
def FnExactItvWideUptoSaid : Prop := fnExactItvWideUptoRow.holds Try.pinned (OpenSpec.upto fnExactItvWideSpec)

end Rows
end Go.Proofs.Ytimmjejmcklofaa
