/-
  No cell of these rows narrows 'for every input' (looked for: loops, veiled, ifaces, maps, wideKeys, modest, calm, conditions, laid).
  DERIVED. THE GIVEN ROWS OF THIS SEAT. 4 by the template 'for every input the law returns true; each argument reads behind the call as it read before'; 0 by the template 'total and deterministic' (their statements: YtjipjijlaganmaaTotals.lean).
  GIVEN WITH THE SEED: the statements are not yours to turn. If you find one false, say at which input.
  Laid BY PROGRAM, IN A SANDBOX (cutbox-rows.mjs): the forced cells as the released guide's own fill.sh prints them over the translation 22fbb0c5b8d7ed8f… (all of the seat's roots in one cut). By AI agents, Wed Nov 11 2026. No macro, syntax, notation, axiom, sorry.
-/
import Derived.Test.YtjipjijlaganmaaChecked
import GoSem.Claim
import GoSem.ClaimJoined
import GoSem.ClaimMapViews
import Derived.JoinedTies
import Derived.KernelRfl
namespace Go.Proofs.Ytjipjijlaganmaa
/- THE CELL 'sum', in the pinned program and in every row, IS THE sha256 OF THE DUMP (.gsa) THAT YtjipjijlaganmaaProg.lean LOADS. Nothing in Lean hashes anything: it is a label: what it is worth is what the hold of that sum in a sandbox is worth. -/
noncomputable def Try.pinned : Pinned := { name := "ytjipjijlaganmaa", sum := "22fbb0c5b8d7ed8f658db12e814f761f80a110e2da57548e34c1eee00ac59007", checked := Try.checked }
namespace Rows
def none {H : Type} : Left H := { results := [], args := [] }

/-- 'laws.FnExactNumDo': WHATEVER THE INPUT: true; the input reads as it did. -/
def fnExactNumDoSpec : ChangeSpec := { name := "fnExactNumDo", fn := fun _ => fun
  | [d1, d2, d3] => { results := [.lit (.bool true)], args := [d1, d2, d3] }
  | _ => none }
def fnExactNumDoRow : OpenClaim := { program := "ytjipjijlaganmaa", sum := "22fbb0c5b8d7ed8f658db12e814f761f80a110e2da57548e34c1eee00ac59007", func := "loop.example/outwork/laws.FnExactNumDo", spec := "fnExactNumDo", unfollowed := true, recurses := true, apart := false }
def FnExactNumDoSaid : Prop := fnExactNumDoRow.holds Try.pinned (OpenSpec.ofChange fnExactNumDoSpec)

/-- ITS FALSE NEIGHBOUR: 'it returns false'. Refute it at one input. -/
def fnExactNumDoWrong : ChangeSpec := { name := "fnExactNumDo", fn := fun _ => fun
  | [d1, d2, d3] => { results := [.lit (.bool false)], args := [d1, d2, d3] }
  | _ => none }
def FnExactNumDoWrongFalsely : Prop := fnExactNumDoRow.holds Try.pinned (OpenSpec.ofChange fnExactNumDoWrong)

/-- 'laws.FnExactItvRel': WHATEVER THE INPUT: true; the input reads as it did. -/
def fnExactItvRelSpec : ChangeSpec := { name := "fnExactItvRel", fn := fun _ => fun
  | [d1, d2, d3] => { results := [.lit (.bool true)], args := [d1, d2, d3] }
  | _ => none }
def fnExactItvRelRow : OpenClaim := { program := "ytjipjijlaganmaa", sum := "22fbb0c5b8d7ed8f658db12e814f761f80a110e2da57548e34c1eee00ac59007", func := "loop.example/outwork/laws.FnExactItvRel", spec := "fnExactItvRel", unfollowed := true, recurses := true, apart := false }
def FnExactItvRelSaid : Prop := fnExactItvRelRow.holds Try.pinned (OpenSpec.ofChange fnExactItvRelSpec)

/-- ITS FALSE NEIGHBOUR: 'it returns false'. Refute it at one input. -/
def fnExactItvRelWrong : ChangeSpec := { name := "fnExactItvRel", fn := fun _ => fun
  | [d1, d2, d3] => { results := [.lit (.bool false)], args := [d1, d2, d3] }
  | _ => none }
def FnExactItvRelWrongFalsely : Prop := fnExactItvRelRow.holds Try.pinned (OpenSpec.ofChange fnExactItvRelWrong)

/-- 'laws.FnExactItvNot': WHATEVER THE INPUT: true; the input reads as it did. -/
def fnExactItvNotSpec : ChangeSpec := { name := "fnExactItvNot", fn := fun _ => fun
  | [d1, d2, d3] => { results := [.lit (.bool true)], args := [d1, d2, d3] }
  | _ => none }
def fnExactItvNotRow : OpenClaim := { program := "ytjipjijlaganmaa", sum := "22fbb0c5b8d7ed8f658db12e814f761f80a110e2da57548e34c1eee00ac59007", func := "loop.example/outwork/laws.FnExactItvNot", spec := "fnExactItvNot", unfollowed := true, recurses := true, apart := false }
def FnExactItvNotSaid : Prop := fnExactItvNotRow.holds Try.pinned (OpenSpec.ofChange fnExactItvNotSpec)

/-- ITS FALSE NEIGHBOUR: 'it returns false'. Refute it at one input. -/
def fnExactItvNotWrong : ChangeSpec := { name := "fnExactItvNot", fn := fun _ => fun
  | [d1, d2, d3] => { results := [.lit (.bool false)], args := [d1, d2, d3] }
  | _ => none }
def FnExactItvNotWrongFalsely : Prop := fnExactItvNotRow.holds Try.pinned (OpenSpec.ofChange fnExactItvNotWrong)

/-- 'laws.FnExactItvDo': WHATEVER THE INPUT: true; the input reads as it did. -/
def fnExactItvDoSpec : ChangeSpec := { name := "fnExactItvDo", fn := fun _ => fun
  | [d1, d2, d3] => { results := [.lit (.bool true)], args := [d1, d2, d3] }
  | _ => none }
def fnExactItvDoRow : OpenClaim := { program := "ytjipjijlaganmaa", sum := "22fbb0c5b8d7ed8f658db12e814f761f80a110e2da57548e34c1eee00ac59007", func := "loop.example/outwork/laws.FnExactItvDo", spec := "fnExactItvDo", unfollowed := true, recurses := true, apart := false }
def FnExactItvDoSaid : Prop := fnExactItvDoRow.holds Try.pinned (OpenSpec.ofChange fnExactItvDoSpec)

/-- ITS FALSE NEIGHBOUR: 'it returns false'. Refute it at one input. -/
def fnExactItvDoWrong : ChangeSpec := { name := "fnExactItvDo", fn := fun _ => fun
  | [d1, d2, d3] => { results := [.lit (.bool false)], args := [d1, d2, d3] }
  | _ => none }
def FnExactItvDoWrongFalsely : Prop := fnExactItvDoRow.holds Try.pinned (OpenSpec.ofChange fnExactItvDoWrong)

/- THE SECOND FORM. 'bulk': how many values and letters a reading holds, each counted each time it is reached (what is shared counts as often as it is met; a slice's spare places count too). A statement '..UptoSaid' is the law's where the arguments, and the package variables that the reading takes, are together of bulk at most 1048576: NARROWER than '..Said'. Prove '..Said' where nothing that the law and all that it calls make is longer than what came in: it says more and counts as full. Else prove '..UptoSaid'. A law counts once. -/
mutual
def uptoBulk {H : Type} : DataW H → Nat
  | .lit (.string bytes) => bytes.length + 1
  | .lit _ => 1
  | .nil => 1
  | .ptr d => uptoBulk d + 1
  | .slice elems spare => uptoBulkAll elems + uptoBulkAll spare + 1
  | .agg parts => uptoBulkAll parts + 1
  | .iface _ d => uptoBulk d + 1
  | .map entries => uptoBulkEntries entries + 1
  | .held _ => 1
def uptoBulkAll {H : Type} : List (DataW H) → Nat
  | [] => 0
  | d :: r => uptoBulk d + uptoBulkAll r
def uptoBulkEntries {H : Type} : List (Lit × DataW H) → Nat
  | [] => 0
  | x :: r => uptoBulkEntry x + uptoBulkEntries r
def uptoBulkEntry {H : Type} : Lit × DataW H → Nat
  | (.string bytes, d) => bytes.length + uptoBulk d + 1
  | (_, d) => uptoBulk d + 1
 end
def uptoSmall : (H : Type) → List (DataW H) → Bool := fun _ ds => decide (uptoBulkAll ds ≤ 1048576)
def OpenSpec.upto (s : _root_.Go.ChangeSpec) : _root_.Go.OpenSpec := { _root_.Go.OpenSpec.ofChange s with cond := some uptoSmall }

/-- 'laws.FnExactNumDo', WHERE WHAT IT READS IS OF BULK AT MOST 1048576: true; the input reads as it did. -/
def fnExactNumDoUptoRow : OpenClaim := { program := "ytjipjijlaganmaa", sum := "22fbb0c5b8d7ed8f658db12e814f761f80a110e2da57548e34c1eee00ac59007", func := "loop.example/outwork/laws.FnExactNumDo", spec := "fnExactNumDo", unfollowed := true, recurses := true, apart := false, narrowed := true }
def FnExactNumDoUptoSaid : Prop := fnExactNumDoUptoRow.holds Try.pinned (OpenSpec.upto fnExactNumDoSpec)

/-- 'laws.FnExactItvRel', WHERE WHAT IT READS IS OF BULK AT MOST 1048576: true; the input reads as it did. -/
def fnExactItvRelUptoRow : OpenClaim := { program := "ytjipjijlaganmaa", sum := "22fbb0c5b8d7ed8f658db12e814f761f80a110e2da57548e34c1eee00ac59007", func := "loop.example/outwork/laws.FnExactItvRel", spec := "fnExactItvRel", unfollowed := true, recurses := true, apart := false, narrowed := true }
def FnExactItvRelUptoSaid : Prop := fnExactItvRelUptoRow.holds Try.pinned (OpenSpec.upto fnExactItvRelSpec)

/-- 'laws.FnExactItvNot', WHERE WHAT IT READS IS OF BULK AT MOST 1048576: true; the input reads as it did. -/
def fnExactItvNotUptoRow : OpenClaim := { program := "ytjipjijlaganmaa", sum := "22fbb0c5b8d7ed8f658db12e814f761f80a110e2da57548e34c1eee00ac59007", func := "loop.example/outwork/laws.FnExactItvNot", spec := "fnExactItvNot", unfollowed := true, recurses := true, apart := false, narrowed := true }
def FnExactItvNotUptoSaid : Prop := fnExactItvNotUptoRow.holds Try.pinned (OpenSpec.upto fnExactItvNotSpec)

/-- 'laws.FnExactItvDo', WHERE WHAT IT READS IS OF BULK AT MOST 1048576: true; the input reads as it did. -/
def fnExactItvDoUptoRow : OpenClaim := { program := "ytjipjijlaganmaa", sum := "22fbb0c5b8d7ed8f658db12e814f761f80a110e2da57548e34c1eee00ac59007", func := "loop.example/outwork/laws.FnExactItvDo", spec := "fnExactItvDo", unfollowed := true, recurses := true, apart := false, narrowed := true }
def FnExactItvDoUptoSaid : Prop := fnExactItvDoUptoRow.holds Try.pinned (OpenSpec.upto fnExactItvDoSpec)

end Rows
end Go.Proofs.Ytjipjijlaganmaa
