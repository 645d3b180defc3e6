/-
  No cell of these rows narrows 'for every input' (looked for: loops, veiled, ifaces, maps, wideKeys, modest, calm, conditions, laid).
  DERIVED. THE GIVEN ROWS OF THIS SEAT. 5 by the template 'for every input the law returns true; each argument reads behind the call as it read before'; 0 by the template 'total and deterministic' (their statements: YtempklcflcpjaaaTotals.lean).
  GIVEN WITH THE SEED: the statements are not yours to turn. If you find one false, say at which input.
  Laid BY PROGRAM, IN A SANDBOX (cutbox-rows.mjs): the forced cells as the released guide's own fill.sh prints them over the translation 275ece89f1c83798… (all of the seat's roots in one cut). By AI agents, Wed Nov 11 2026. No macro, syntax, notation, axiom, sorry.
-/
import Derived.Test.YtempklcflcpjaaaChecked
import GoSem.Claim
import GoSem.ClaimJoined
import GoSem.ClaimMapViews
import Derived.JoinedTies
import Derived.KernelRfl
namespace Go.Proofs.Ytempklcflcpjaaa
/- THE CELL 'sum', in the pinned program and in every row, IS THE sha256 OF THE DUMP (.gsa) THAT YtempklcflcpjaaaProg.lean LOADS. Nothing in Lean hashes anything: it is a label: what it is worth is what the hold of that sum in a sandbox is worth. -/
noncomputable def Try.pinned : Pinned := { name := "ytempklcflcpjaaa", sum := "275ece89f1c8379807a442bfae62ac8f991f225bd35e03c5729cce65f7860ad0", checked := Try.checked }
namespace Rows
def none {H : Type} : Left H := { results := [], args := [] }

/-- 'laws.FnItvTight': WHATEVER THE INPUT: true; the input reads as it did. -/
def fnItvTightSpec : ChangeSpec := { name := "fnItvTight", fn := fun _ => fun
  | [d] => { results := [.lit (.bool true)], args := [d] }
  | _ => none }
def fnItvTightRow : OpenClaim := { program := "ytempklcflcpjaaa", sum := "275ece89f1c8379807a442bfae62ac8f991f225bd35e03c5729cce65f7860ad0", func := "loop.example/outwork/laws.FnItvTight", spec := "fnItvTight", unfollowed := true, recurses := true, apart := false }
def FnItvTightSaid : Prop := fnItvTightRow.holds Try.pinned (OpenSpec.ofChange fnItvTightSpec)

/-- ITS FALSE NEIGHBOUR: 'it returns false'. Refute it at one input. -/
def fnItvTightWrong : ChangeSpec := { name := "fnItvTight", fn := fun _ => fun
  | [d] => { results := [.lit (.bool false)], args := [d] }
  | _ => none }
def FnItvTightWrongFalsely : Prop := fnItvTightRow.holds Try.pinned (OpenSpec.ofChange fnItvTightWrong)

/-- 'laws.FnItvMono': WHATEVER THE INPUT: true; the input reads as it did. -/
def fnItvMonoSpec : ChangeSpec := { name := "fnItvMono", fn := fun _ => fun
  | [d1, d2] => { results := [.lit (.bool true)], args := [d1, d2] }
  | _ => none }
def fnItvMonoRow : OpenClaim := { program := "ytempklcflcpjaaa", sum := "275ece89f1c8379807a442bfae62ac8f991f225bd35e03c5729cce65f7860ad0", func := "loop.example/outwork/laws.FnItvMono", spec := "fnItvMono", unfollowed := true, recurses := true, apart := false }
def FnItvMonoSaid : Prop := fnItvMonoRow.holds Try.pinned (OpenSpec.ofChange fnItvMonoSpec)

/-- ITS FALSE NEIGHBOUR: 'it returns false'. Refute it at one input. -/
def fnItvMonoWrong : ChangeSpec := { name := "fnItvMono", fn := fun _ => fun
  | [d1, d2] => { results := [.lit (.bool false)], args := [d1, d2] }
  | _ => none }
def FnItvMonoWrongFalsely : Prop := fnItvMonoRow.holds Try.pinned (OpenSpec.ofChange fnItvMonoWrong)

/-- 'laws.FnItvRel': WHATEVER THE INPUT: true; the input reads as it did. -/
def fnItvRelSpec : ChangeSpec := { name := "fnItvRel", fn := fun _ => fun
  | [d1, d2] => { results := [.lit (.bool true)], args := [d1, d2] }
  | _ => none }
def fnItvRelRow : OpenClaim := { program := "ytempklcflcpjaaa", sum := "275ece89f1c8379807a442bfae62ac8f991f225bd35e03c5729cce65f7860ad0", func := "loop.example/outwork/laws.FnItvRel", spec := "fnItvRel", unfollowed := true, recurses := true, apart := false }
def FnItvRelSaid : Prop := fnItvRelRow.holds Try.pinned (OpenSpec.ofChange fnItvRelSpec)

/-- ITS FALSE NEIGHBOUR: 'it returns false'. Refute it at one input. -/
def fnItvRelWrong : ChangeSpec := { name := "fnItvRel", fn := fun _ => fun
  | [d1, d2] => { results := [.lit (.bool false)], args := [d1, d2] }
  | _ => none }
def FnItvRelWrongFalsely : Prop := fnItvRelRow.holds Try.pinned (OpenSpec.ofChange fnItvRelWrong)

/-- 'laws.FnItvDo': WHATEVER THE INPUT: true; the input reads as it did. -/
def fnItvDoSpec : ChangeSpec := { name := "fnItvDo", fn := fun _ => fun
  | [d1, d2] => { results := [.lit (.bool true)], args := [d1, d2] }
  | _ => none }
def fnItvDoRow : OpenClaim := { program := "ytempklcflcpjaaa", sum := "275ece89f1c8379807a442bfae62ac8f991f225bd35e03c5729cce65f7860ad0", func := "loop.example/outwork/laws.FnItvDo", spec := "fnItvDo", unfollowed := true, recurses := true, apart := false }
def FnItvDoSaid : Prop := fnItvDoRow.holds Try.pinned (OpenSpec.ofChange fnItvDoSpec)

/-- ITS FALSE NEIGHBOUR: 'it returns false'. Refute it at one input. -/
def fnItvDoWrong : ChangeSpec := { name := "fnItvDo", fn := fun _ => fun
  | [d1, d2] => { results := [.lit (.bool false)], args := [d1, d2] }
  | _ => none }
def FnItvDoWrongFalsely : Prop := fnItvDoRow.holds Try.pinned (OpenSpec.ofChange fnItvDoWrong)

/-- 'laws.FnItvNot': WHATEVER THE INPUT: true; the input reads as it did. -/
def fnItvNotSpec : ChangeSpec := { name := "fnItvNot", fn := fun _ => fun
  | [d1, d2] => { results := [.lit (.bool true)], args := [d1, d2] }
  | _ => none }
def fnItvNotRow : OpenClaim := { program := "ytempklcflcpjaaa", sum := "275ece89f1c8379807a442bfae62ac8f991f225bd35e03c5729cce65f7860ad0", func := "loop.example/outwork/laws.FnItvNot", spec := "fnItvNot", unfollowed := true, recurses := true, apart := false }
def FnItvNotSaid : Prop := fnItvNotRow.holds Try.pinned (OpenSpec.ofChange fnItvNotSpec)

/-- ITS FALSE NEIGHBOUR: 'it returns false'. Refute it at one input. -/
def fnItvNotWrong : ChangeSpec := { name := "fnItvNot", fn := fun _ => fun
  | [d1, d2] => { results := [.lit (.bool false)], args := [d1, d2] }
  | _ => none }
def FnItvNotWrongFalsely : Prop := fnItvNotRow.holds Try.pinned (OpenSpec.ofChange fnItvNotWrong)

/- THE SECOND FORM. 'bulk': how many values and letters a reading holds, each counted each time it is reached (what is shared counts as often as it is met; a slice's spare places count too). A statement '..UptoSaid' is the law's where the arguments, and the package variables that the reading takes, are together of bulk at most 1048576: NARROWER than '..Said'. Prove '..Said' where nothing that the law and all that it calls make is longer than what came in: it says more and counts as full. Else prove '..UptoSaid'. A law counts once. -/
mutual
def uptoBulk {H : Type} : DataW H → Nat
  | .lit (.string bytes) => bytes.length + 1
  | .lit _ => 1
  | .nil => 1
  | .ptr d => uptoBulk d + 1
  | .slice elems spare => uptoBulkAll elems + uptoBulkAll spare + 1
  | .agg parts => uptoBulkAll parts + 1
  | .iface _ d => uptoBulk d + 1
  | .map entries => uptoBulkEntries entries + 1
  | .held _ => 1
def uptoBulkAll {H : Type} : List (DataW H) → Nat
  | [] => 0
  | d :: r => uptoBulk d + uptoBulkAll r
def uptoBulkEntries {H : Type} : List (Lit × DataW H) → Nat
  | [] => 0
  | x :: r => uptoBulkEntry x + uptoBulkEntries r
def uptoBulkEntry {H : Type} : Lit × DataW H → Nat
  | (.string bytes, d) => bytes.length + uptoBulk d + 1
  | (_, d) => uptoBulk d + 1
 end
def uptoSmall : (H : Type) → List (DataW H) → Bool := fun _ ds => decide (uptoBulkAll ds ≤ 1048576)
def OpenSpec.upto (s : _root_.Go.ChangeSpec) : _root_.Go.OpenSpec := { _root_.Go.OpenSpec.ofChange s with cond := some uptoSmall }

/-- 'laws.FnItvTight', WHERE WHAT IT READS IS OF BULK AT MOST 1048576: true; the input reads as it did. -/
def fnItvTightUptoRow : OpenClaim := { program := "ytempklcflcpjaaa", sum := "275ece89f1c8379807a442bfae62ac8f991f225bd35e03c5729cce65f7860ad0", func := "loop.example/outwork/laws.FnItvTight", spec := "fnItvTight", unfollowed := true, recurses := true, apart := false, narrowed := true }
def FnItvTightUptoSaid : Prop := fnItvTightUptoRow.holds Try.pinned (OpenSpec.upto fnItvTightSpec)

/-- 'laws.FnItvMono', WHERE WHAT IT READS IS OF BULK AT MOST 1048576: true; the input reads as it did. -/
def fnItvMonoUptoRow : OpenClaim := { program := "ytempklcflcpjaaa", sum := "275ece89f1c8379807a442bfae62ac8f991f225bd35e03c5729cce65f7860ad0", func := "loop.example/outwork/laws.FnItvMono", spec := "fnItvMono", unfollowed := true, recurses := true, apart := false, narrowed := true }
def FnItvMonoUptoSaid : Prop := fnItvMonoUptoRow.holds Try.pinned (OpenSpec.upto fnItvMonoSpec)

/-- 'laws.FnItvRel', WHERE WHAT IT READS IS OF BULK AT MOST 1048576: true; the input reads as it did. -/
def fnItvRelUptoRow : OpenClaim := { program := "ytempklcflcpjaaa", sum := "275ece89f1c8379807a442bfae62ac8f991f225bd35e03c5729cce65f7860ad0", func := "loop.example/outwork/laws.FnItvRel", spec := "fnItvRel", unfollowed := true, recurses := true, apart := false, narrowed := true }
def FnItvRelUptoSaid : Prop := fnItvRelUptoRow.holds Try.pinned (OpenSpec.upto fnItvRelSpec)

/-- 'laws.FnItvDo', WHERE WHAT IT READS IS OF BULK AT MOST 1048576: true; the input reads as it did. -/
def fnItvDoUptoRow : OpenClaim := { program := "ytempklcflcpjaaa", sum := "275ece89f1c8379807a442bfae62ac8f991f225bd35e03c5729cce65f7860ad0", func := "loop.example/outwork/laws.FnItvDo", spec := "fnItvDo", unfollowed := true, recurses := true, apart := false, narrowed := true }
def FnItvDoUptoSaid : Prop := fnItvDoUptoRow.holds Try.pinned (OpenSpec.upto fnItvDoSpec)

/-- 'laws.FnItvNot', WHERE WHAT IT READS IS OF BULK AT MOST 1048576: true; the input reads as it did. -/
def fnItvNotUptoRow : OpenClaim := { program := "ytempklcflcpjaaa", sum := "275ece89f1c8379807a442bfae62ac8f991f225bd35e03c5729cce65f7860ad0", func := "loop.example/outwork/laws.FnItvNot", spec := "fnItvNot", unfollowed := true, recurses := true, apart := false, narrowed := true }
def FnItvNotUptoSaid : Prop := fnItvNotUptoRow.holds Try.pinned (OpenSpec.upto fnItvNotSpec)

end Rows
end Go.Proofs.Ytempklcflcpjaaa
