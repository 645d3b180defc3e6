/-
  No cell of these rows narrows 'for every input' (looked for: loops, veiled, ifaces, maps, wideKeys, modest, calm, conditions, laid).
  DERIVED. THE GIVEN ROWS OF THIS SEAT. 8 by the template 'for every input the law returns true; each argument reads behind the call as it read before'; 0 by the template 'total and deterministic' (their statements: YtbkfhlppcocamaaTotals.lean).
  GIVEN WITH THE SEED: the statements are not yours to turn. If you find one false, say at which input.
  Laid BY PROGRAM, IN A SANDBOX (cutbox-rows.mjs): the forced cells as the released guide's own fill.sh prints them over the translation d04190bc79143370… (all of the seat's roots in one cut). By AI agents, Wed Nov 11 2026. No macro, syntax, notation, axiom, sorry.
-/
import Derived.Test.YtbkfhlppcocamaaChecked
import GoSem.Claim
import GoSem.ClaimJoined
import GoSem.ClaimMapViews
import Derived.JoinedTies
import Derived.KernelRfl
namespace Go.Proofs.Ytbkfhlppcocamaa
/- THE CELL 'sum', in the pinned program and in every row, IS THE sha256 OF THE DUMP (.gsa) THAT YtbkfhlppcocamaaProg.lean LOADS. Nothing in Lean hashes anything: it is a label: what it is worth is what the hold of that sum in a sandbox is worth. -/
noncomputable def Try.pinned : Pinned := { name := "ytbkfhlppcocamaa", sum := "d04190bc79143370de8bc04f2a607d6c73c66069deb2efc9b93b4e85f6432e0a", checked := Try.checked }
namespace Rows
def none {H : Type} : Left H := { results := [], args := [] }

/-- 'laws.FnNumWrap': WHATEVER THE INPUT: true; the input reads as it did. -/
def fnNumWrapSpec : ChangeSpec := { name := "fnNumWrap", fn := fun _ => fun
  | [d] => { results := [.lit (.bool true)], args := [d] }
  | _ => none }
def fnNumWrapRow : OpenClaim := { program := "ytbkfhlppcocamaa", sum := "d04190bc79143370de8bc04f2a607d6c73c66069deb2efc9b93b4e85f6432e0a", func := "loop.example/outwork/laws.FnNumWrap", spec := "fnNumWrap", apart := false }
def FnNumWrapSaid : Prop := fnNumWrapRow.holds Try.pinned (OpenSpec.ofChange fnNumWrapSpec)

/-- ITS FALSE NEIGHBOUR: 'it returns false'. Refute it at one input. -/
def fnNumWrapWrong : ChangeSpec := { name := "fnNumWrap", fn := fun _ => fun
  | [d] => { results := [.lit (.bool false)], args := [d] }
  | _ => none }
def FnNumWrapWrongFalsely : Prop := fnNumWrapRow.holds Try.pinned (OpenSpec.ofChange fnNumWrapWrong)

/-- 'laws.FnRelHolds': WHATEVER THE INPUT: true; the input reads as it did. -/
def fnRelHoldsSpec : ChangeSpec := { name := "fnRelHolds", fn := fun _ => fun
  | [d] => { results := [.lit (.bool true)], args := [d] }
  | _ => none }
def fnRelHoldsRow : OpenClaim := { program := "ytbkfhlppcocamaa", sum := "d04190bc79143370de8bc04f2a607d6c73c66069deb2efc9b93b4e85f6432e0a", func := "loop.example/outwork/laws.FnRelHolds", spec := "fnRelHolds", apart := false }
def FnRelHoldsSaid : Prop := fnRelHoldsRow.holds Try.pinned (OpenSpec.ofChange fnRelHoldsSpec)

/-- ITS FALSE NEIGHBOUR: 'it returns false'. Refute it at one input. -/
def fnRelHoldsWrong : ChangeSpec := { name := "fnRelHolds", fn := fun _ => fun
  | [d] => { results := [.lit (.bool false)], args := [d] }
  | _ => none }
def FnRelHoldsWrongFalsely : Prop := fnRelHoldsRow.holds Try.pinned (OpenSpec.ofChange fnRelHoldsWrong)

/-- 'laws.FnNumDo': WHATEVER THE INPUT: true; the input reads as it did. -/
def fnNumDoSpec : ChangeSpec := { name := "fnNumDo", fn := fun _ => fun
  | [d] => { results := [.lit (.bool true)], args := [d] }
  | _ => none }
def fnNumDoRow : OpenClaim := { program := "ytbkfhlppcocamaa", sum := "d04190bc79143370de8bc04f2a607d6c73c66069deb2efc9b93b4e85f6432e0a", func := "loop.example/outwork/laws.FnNumDo", spec := "fnNumDo", unfollowed := true, recurses := true, apart := false }
def FnNumDoSaid : Prop := fnNumDoRow.holds Try.pinned (OpenSpec.ofChange fnNumDoSpec)

/-- ITS FALSE NEIGHBOUR: 'it returns false'. Refute it at one input. -/
def fnNumDoWrong : ChangeSpec := { name := "fnNumDo", fn := fun _ => fun
  | [d] => { results := [.lit (.bool false)], args := [d] }
  | _ => none }
def FnNumDoWrongFalsely : Prop := fnNumDoRow.holds Try.pinned (OpenSpec.ofChange fnNumDoWrong)

/-- 'laws.FnItvIn': WHATEVER THE INPUT: true; the input reads as it did. -/
def fnItvInSpec : ChangeSpec := { name := "fnItvIn", fn := fun _ => fun
  | [d1, d2] => { results := [.lit (.bool true)], args := [d1, d2] }
  | _ => none }
def fnItvInRow : OpenClaim := { program := "ytbkfhlppcocamaa", sum := "d04190bc79143370de8bc04f2a607d6c73c66069deb2efc9b93b4e85f6432e0a", func := "loop.example/outwork/laws.FnItvIn", spec := "fnItvIn", apart := false }
def FnItvInSaid : Prop := fnItvInRow.holds Try.pinned (OpenSpec.ofChange fnItvInSpec)

/-- ITS FALSE NEIGHBOUR: 'it returns false'. Refute it at one input. -/
def fnItvInWrong : ChangeSpec := { name := "fnItvIn", fn := fun _ => fun
  | [d1, d2] => { results := [.lit (.bool false)], args := [d1, d2] }
  | _ => none }
def FnItvInWrongFalsely : Prop := fnItvInRow.holds Try.pinned (OpenSpec.ofChange fnItvInWrong)

/-- 'laws.FnItvJoin': WHATEVER THE INPUT: true; the input reads as it did. -/
def fnItvJoinSpec : ChangeSpec := { name := "fnItvJoin", fn := fun _ => fun
  | [d1, d2] => { results := [.lit (.bool true)], args := [d1, d2] }
  | _ => none }
def fnItvJoinRow : OpenClaim := { program := "ytbkfhlppcocamaa", sum := "d04190bc79143370de8bc04f2a607d6c73c66069deb2efc9b93b4e85f6432e0a", func := "loop.example/outwork/laws.FnItvJoin", spec := "fnItvJoin", apart := false }
def FnItvJoinSaid : Prop := fnItvJoinRow.holds Try.pinned (OpenSpec.ofChange fnItvJoinSpec)

/-- ITS FALSE NEIGHBOUR: 'it returns false'. Refute it at one input. -/
def fnItvJoinWrong : ChangeSpec := { name := "fnItvJoin", fn := fun _ => fun
  | [d1, d2] => { results := [.lit (.bool false)], args := [d1, d2] }
  | _ => none }
def FnItvJoinWrongFalsely : Prop := fnItvJoinRow.holds Try.pinned (OpenSpec.ofChange fnItvJoinWrong)

/-- 'laws.FnItvFold': WHATEVER THE INPUT: true; the input reads as it did. -/
def fnItvFoldSpec : ChangeSpec := { name := "fnItvFold", fn := fun _ => fun
  | [d1, d2] => { results := [.lit (.bool true)], args := [d1, d2] }
  | _ => none }
def fnItvFoldRow : OpenClaim := { program := "ytbkfhlppcocamaa", sum := "d04190bc79143370de8bc04f2a607d6c73c66069deb2efc9b93b4e85f6432e0a", func := "loop.example/outwork/laws.FnItvFold", spec := "fnItvFold", apart := false }
def FnItvFoldSaid : Prop := fnItvFoldRow.holds Try.pinned (OpenSpec.ofChange fnItvFoldSpec)

/-- ITS FALSE NEIGHBOUR: 'it returns false'. Refute it at one input. -/
def fnItvFoldWrong : ChangeSpec := { name := "fnItvFold", fn := fun _ => fun
  | [d1, d2] => { results := [.lit (.bool false)], args := [d1, d2] }
  | _ => none }
def FnItvFoldWrongFalsely : Prop := fnItvFoldRow.holds Try.pinned (OpenSpec.ofChange fnItvFoldWrong)

/-- 'laws.FnItvMeet': WHATEVER THE INPUT: true; the input reads as it did. -/
def fnItvMeetSpec : ChangeSpec := { name := "fnItvMeet", fn := fun _ => fun
  | [d1, d2] => { results := [.lit (.bool true)], args := [d1, d2] }
  | _ => none }
def fnItvMeetRow : OpenClaim := { program := "ytbkfhlppcocamaa", sum := "d04190bc79143370de8bc04f2a607d6c73c66069deb2efc9b93b4e85f6432e0a", func := "loop.example/outwork/laws.FnItvMeet", spec := "fnItvMeet", apart := false }
def FnItvMeetSaid : Prop := fnItvMeetRow.holds Try.pinned (OpenSpec.ofChange fnItvMeetSpec)

/-- ITS FALSE NEIGHBOUR: 'it returns false'. Refute it at one input. -/
def fnItvMeetWrong : ChangeSpec := { name := "fnItvMeet", fn := fun _ => fun
  | [d1, d2] => { results := [.lit (.bool false)], args := [d1, d2] }
  | _ => none }
def FnItvMeetWrongFalsely : Prop := fnItvMeetRow.holds Try.pinned (OpenSpec.ofChange fnItvMeetWrong)

/-- 'laws.FnItvWide': WHATEVER THE INPUT: true; the input reads as it did. -/
def fnItvWideSpec : ChangeSpec := { name := "fnItvWide", fn := fun _ => fun
  | [d] => { results := [.lit (.bool true)], args := [d] }
  | _ => none }
def fnItvWideRow : OpenClaim := { program := "ytbkfhlppcocamaa", sum := "d04190bc79143370de8bc04f2a607d6c73c66069deb2efc9b93b4e85f6432e0a", func := "loop.example/outwork/laws.FnItvWide", spec := "fnItvWide", apart := false }
def FnItvWideSaid : Prop := fnItvWideRow.holds Try.pinned (OpenSpec.ofChange fnItvWideSpec)

/-- ITS FALSE NEIGHBOUR: 'it returns false'. Refute it at one input. -/
def fnItvWideWrong : ChangeSpec := { name := "fnItvWide", fn := fun _ => fun
  | [d] => { results := [.lit (.bool false)], args := [d] }
  | _ => none }
def FnItvWideWrongFalsely : Prop := fnItvWideRow.holds Try.pinned (OpenSpec.ofChange fnItvWideWrong)

/- THE SECOND FORM. 'bulk': how many values and letters a reading holds, each counted each time it is reached (what is shared counts as often as it is met; a slice's spare places count too). A statement '..UptoSaid' is the law's where the arguments, and the package variables that the reading takes, are together of bulk at most 1048576: NARROWER than '..Said'. Prove '..Said' where nothing that the law and all that it calls make is longer than what came in: it says more and counts as full. Else prove '..UptoSaid'. A law counts once. -/
mutual
def uptoBulk {H : Type} : DataW H → Nat
  | .lit (.string bytes) => bytes.length + 1
  | .lit _ => 1
  | .nil => 1
  | .ptr d => uptoBulk d + 1
  | .slice elems spare => uptoBulkAll elems + uptoBulkAll spare + 1
  | .agg parts => uptoBulkAll parts + 1
  | .iface _ d => uptoBulk d + 1
  | .map entries => uptoBulkEntries entries + 1
  | .held _ => 1
def uptoBulkAll {H : Type} : List (DataW H) → Nat
  | [] => 0
  | d :: r => uptoBulk d + uptoBulkAll r
def uptoBulkEntries {H : Type} : List (Lit × DataW H) → Nat
  | [] => 0
  | x :: r => uptoBulkEntry x + uptoBulkEntries r
def uptoBulkEntry {H : Type} : Lit × DataW H → Nat
  | (.string bytes, d) => bytes.length + uptoBulk d + 1
  | (_, d) => uptoBulk d + 1
 end
def uptoSmall : (H : Type) → List (DataW H) → Bool := fun _ ds => decide (uptoBulkAll ds ≤ 1048576)
def OpenSpec.upto (s : _root_.Go.ChangeSpec) : _root_.Go.OpenSpec := { _root_.Go.OpenSpec.ofChange s with cond := some uptoSmall }

/-- 'laws.FnNumWrap', WHERE WHAT IT READS IS OF BULK AT MOST 1048576: true; the input reads as it did. -/
def fnNumWrapUptoRow : OpenClaim := { program := "ytbkfhlppcocamaa", sum := "d04190bc79143370de8bc04f2a607d6c73c66069deb2efc9b93b4e85f6432e0a", func := "loop.example/outwork/laws.FnNumWrap", spec := "fnNumWrap", apart := false, narrowed := true }
def FnNumWrapUptoSaid : Prop := fnNumWrapUptoRow.holds Try.pinned (OpenSpec.upto fnNumWrapSpec)

/-- 'laws.FnRelHolds', WHERE WHAT IT READS IS OF BULK AT MOST 1048576: true; the input reads as it did. -/
def fnRelHoldsUptoRow : OpenClaim := { program := "ytbkfhlppcocamaa", sum := "d04190bc79143370de8bc04f2a607d6c73c66069deb2efc9b93b4e85f6432e0a", func := "loop.example/outwork/laws.FnRelHolds", spec := "fnRelHolds", apart := false, narrowed := true }
def FnRelHoldsUptoSaid : Prop := fnRelHoldsUptoRow.holds Try.pinned (OpenSpec.upto fnRelHoldsSpec)

/-- 'laws.FnNumDo', WHERE WHAT IT READS IS OF BULK AT MOST 1048576: true; the input reads as it did. -/
def fnNumDoUptoRow : OpenClaim := { program := "ytbkfhlppcocamaa", sum := "d04190bc79143370de8bc04f2a607d6c73c66069deb2efc9b93b4e85f6432e0a", func := "loop.example/outwork/laws.FnNumDo", spec := "fnNumDo", unfollowed := true, recurses := true, apart := false, narrowed := true }
def FnNumDoUptoSaid : Prop := fnNumDoUptoRow.holds Try.pinned (OpenSpec.upto fnNumDoSpec)

/-- 'laws.FnItvIn', WHERE WHAT IT READS IS OF BULK AT MOST 1048576: true; the input reads as it did. -/
def fnItvInUptoRow : OpenClaim := { program := "ytbkfhlppcocamaa", sum := "d04190bc79143370de8bc04f2a607d6c73c66069deb2efc9b93b4e85f6432e0a", func := "loop.example/outwork/laws.FnItvIn", spec := "fnItvIn", apart := false, narrowed := true }
def FnItvInUptoSaid : Prop := fnItvInUptoRow.holds Try.pinned (OpenSpec.upto fnItvInSpec)

/-- 'laws.FnItvJoin', WHERE WHAT IT READS IS OF BULK AT MOST 1048576: true; the input reads as it did. -/
def fnItvJoinUptoRow : OpenClaim := { program := "ytbkfhlppcocamaa", sum := "d04190bc79143370de8bc04f2a607d6c73c66069deb2efc9b93b4e85f6432e0a", func := "loop.example/outwork/laws.FnItvJoin", spec := "fnItvJoin", apart := false, narrowed := true }
def FnItvJoinUptoSaid : Prop := fnItvJoinUptoRow.holds Try.pinned (OpenSpec.upto fnItvJoinSpec)

/-- 'laws.FnItvFold', WHERE WHAT IT READS IS OF BULK AT MOST 1048576: true; the input reads as it did. -/
def fnItvFoldUptoRow : OpenClaim := { program := "ytbkfhlppcocamaa", sum := "d04190bc79143370de8bc04f2a607d6c73c66069deb2efc9b93b4e85f6432e0a", func := "loop.example/outwork/laws.FnItvFold", spec := "fnItvFold", apart := false, narrowed := true }
def FnItvFoldUptoSaid : Prop := fnItvFoldUptoRow.holds Try.pinned (OpenSpec.upto fnItvFoldSpec)

/-- 'laws.FnItvMeet', WHERE WHAT IT READS IS OF BULK AT MOST 1048576: true; the input reads as it did. -/
def fnItvMeetUptoRow : OpenClaim := { program := "ytbkfhlppcocamaa", sum := "d04190bc79143370de8bc04f2a607d6c73c66069deb2efc9b93b4e85f6432e0a", func := "loop.example/outwork/laws.FnItvMeet", spec := "fnItvMeet", apart := false, narrowed := true }
def FnItvMeetUptoSaid : Prop := fnItvMeetUptoRow.holds Try.pinned (OpenSpec.upto fnItvMeetSpec)

/-- 'laws.FnItvWide', WHERE WHAT IT READS IS OF BULK AT MOST 1048576: true; the input reads as it did. -/
def fnItvWideUptoRow : OpenClaim := { program := "ytbkfhlppcocamaa", sum := "d04190bc79143370de8bc04f2a607d6c73c66069deb2efc9b93b4e85f6432e0a", func := "loop.example/outwork/laws.FnItvWide", spec := "fnItvWide", apart := false, narrowed := true }
def FnItvWideUptoSaid : Prop := fnItvWideUptoRow.holds Try.pinned (OpenSpec.upto fnItvWideSpec)

end Rows
end Go.Proofs.Ytbkfhlppcocamaa
