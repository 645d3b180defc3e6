/-
  No cell of these rows narrows 'for every input' (looked for: loops, veiled, ifaces, maps, wideKeys, modest, calm, conditions, laid).
  DERIVED. THE GIVEN ROWS OF THIS SEAT. 5 by the template 'for every input the law returns true; each argument reads behind the call as it read before'; 0 by the template 'total and deterministic' (their statements: YtdpooiiacdfpkaaTotals.lean).
  GIVEN WITH THE SEED: the statements are not yours to turn. If you find one false, say at which input.
  Laid BY PROGRAM, IN A SANDBOX (cutbox-rows.mjs): the forced cells as the released guide's own fill.sh prints them over the translation bdfab67096706f35… (all of the seat's roots in one cut). By AI agents, Wed Nov 11 2026. No macro, syntax, notation, axiom, sorry.
-/
import Derived.Test.YtdpooiiacdfpkaaChecked
import GoSem.Claim
import GoSem.ClaimJoined
import GoSem.ClaimMapViews
import Derived.JoinedTies
import Derived.KernelRfl
namespace Go.Proofs.Ytdpooiiacdfpkaa
/- THE CELL 'sum', in the pinned program and in every row, IS THE sha256 OF THE DUMP (.gsa) THAT YtdpooiiacdfpkaaProg.lean LOADS. Nothing in Lean hashes anything: it is a label: what it is worth is what the hold of that sum in a sandbox is worth. -/
noncomputable def Try.pinned : Pinned := { name := "ytdpooiiacdfpkaa", sum := "bdfab67096706f35f2e153d377adc850893f98ddaea2164feb7473621b002bc7", checked := Try.checked }
namespace Rows
def none {H : Type} : Left H := { results := [], args := [] }

/-- 'laws.FnAbsOut': WHATEVER THE INPUT: true; the input reads as it did. -/
def fnAbsOutSpec : ChangeSpec := { name := "fnAbsOut", fn := fun _ => fun
  | [d] => { results := [.lit (.bool true)], args := [d] }
  | _ => none }
def fnAbsOutRow : OpenClaim := { program := "ytdpooiiacdfpkaa", sum := "bdfab67096706f35f2e153d377adc850893f98ddaea2164feb7473621b002bc7", func := "loop.example/outwork/laws.FnAbsOut", spec := "fnAbsOut", unfollowed := true, recurses := true, apart := false }
def FnAbsOutSaid : Prop := fnAbsOutRow.holds Try.pinned (OpenSpec.ofChange fnAbsOutSpec)

/-- ITS FALSE NEIGHBOUR: 'it returns false'. Refute it at one input. -/
def fnAbsOutWrong : ChangeSpec := { name := "fnAbsOut", fn := fun _ => fun
  | [d] => { results := [.lit (.bool false)], args := [d] }
  | _ => none }
def FnAbsOutWrongFalsely : Prop := fnAbsOutRow.holds Try.pinned (OpenSpec.ofChange fnAbsOutWrong)

/-- 'laws.FnExactAbsJoin': WHATEVER THE INPUT: true; the input reads as it did. -/
def fnExactAbsJoinSpec : ChangeSpec := { name := "fnExactAbsJoin", fn := fun _ => fun
  | [d1, d2] => { results := [.lit (.bool true)], args := [d1, d2] }
  | _ => none }
def fnExactAbsJoinRow : OpenClaim := { program := "ytdpooiiacdfpkaa", sum := "bdfab67096706f35f2e153d377adc850893f98ddaea2164feb7473621b002bc7", func := "loop.example/outwork/laws.FnExactAbsJoin", spec := "fnExactAbsJoin", unfollowed := true, recurses := true, apart := false }
def FnExactAbsJoinSaid : Prop := fnExactAbsJoinRow.holds Try.pinned (OpenSpec.ofChange fnExactAbsJoinSpec)

/-- ITS FALSE NEIGHBOUR: 'it returns false'. Refute it at one input. -/
def fnExactAbsJoinWrong : ChangeSpec := { name := "fnExactAbsJoin", fn := fun _ => fun
  | [d1, d2] => { results := [.lit (.bool false)], args := [d1, d2] }
  | _ => none }
def FnExactAbsJoinWrongFalsely : Prop := fnExactAbsJoinRow.holds Try.pinned (OpenSpec.ofChange fnExactAbsJoinWrong)

/-- 'laws.FnExactAbsWide': WHATEVER THE INPUT: true; the input reads as it did. -/
def fnExactAbsWideSpec : ChangeSpec := { name := "fnExactAbsWide", fn := fun _ => fun
  | [d1, d2] => { results := [.lit (.bool true)], args := [d1, d2] }
  | _ => none }
def fnExactAbsWideRow : OpenClaim := { program := "ytdpooiiacdfpkaa", sum := "bdfab67096706f35f2e153d377adc850893f98ddaea2164feb7473621b002bc7", func := "loop.example/outwork/laws.FnExactAbsWide", spec := "fnExactAbsWide", unfollowed := true, recurses := true, apart := false }
def FnExactAbsWideSaid : Prop := fnExactAbsWideRow.holds Try.pinned (OpenSpec.ofChange fnExactAbsWideSpec)

/-- ITS FALSE NEIGHBOUR: 'it returns false'. Refute it at one input. -/
def fnExactAbsWideWrong : ChangeSpec := { name := "fnExactAbsWide", fn := fun _ => fun
  | [d1, d2] => { results := [.lit (.bool false)], args := [d1, d2] }
  | _ => none }
def FnExactAbsWideWrongFalsely : Prop := fnExactAbsWideRow.holds Try.pinned (OpenSpec.ofChange fnExactAbsWideWrong)

/-- 'laws.FnAbsJoin': WHATEVER THE INPUT: true; the input reads as it did. -/
def fnAbsJoinSpec : ChangeSpec := { name := "fnAbsJoin", fn := fun _ => fun
  | [d1, d2] => { results := [.lit (.bool true)], args := [d1, d2] }
  | _ => none }
def fnAbsJoinRow : OpenClaim := { program := "ytdpooiiacdfpkaa", sum := "bdfab67096706f35f2e153d377adc850893f98ddaea2164feb7473621b002bc7", func := "loop.example/outwork/laws.FnAbsJoin", spec := "fnAbsJoin", unfollowed := true, recurses := true, apart := false }
def FnAbsJoinSaid : Prop := fnAbsJoinRow.holds Try.pinned (OpenSpec.ofChange fnAbsJoinSpec)

/-- ITS FALSE NEIGHBOUR: 'it returns false'. Refute it at one input. -/
def fnAbsJoinWrong : ChangeSpec := { name := "fnAbsJoin", fn := fun _ => fun
  | [d1, d2] => { results := [.lit (.bool false)], args := [d1, d2] }
  | _ => none }
def FnAbsJoinWrongFalsely : Prop := fnAbsJoinRow.holds Try.pinned (OpenSpec.ofChange fnAbsJoinWrong)

/-- 'laws.FnAbsWide': WHATEVER THE INPUT: true; the input reads as it did. -/
def fnAbsWideSpec : ChangeSpec := { name := "fnAbsWide", fn := fun _ => fun
  | [d] => { results := [.lit (.bool true)], args := [d] }
  | _ => none }
def fnAbsWideRow : OpenClaim := { program := "ytdpooiiacdfpkaa", sum := "bdfab67096706f35f2e153d377adc850893f98ddaea2164feb7473621b002bc7", func := "loop.example/outwork/laws.FnAbsWide", spec := "fnAbsWide", unfollowed := true, recurses := true, apart := false }
def FnAbsWideSaid : Prop := fnAbsWideRow.holds Try.pinned (OpenSpec.ofChange fnAbsWideSpec)

/-- ITS FALSE NEIGHBOUR: 'it returns false'. Refute it at one input. -/
def fnAbsWideWrong : ChangeSpec := { name := "fnAbsWide", fn := fun _ => fun
  | [d] => { results := [.lit (.bool false)], args := [d] }
  | _ => none }
def FnAbsWideWrongFalsely : Prop := fnAbsWideRow.holds Try.pinned (OpenSpec.ofChange fnAbsWideWrong)

/- THE SECOND FORM. 'bulk': how many values and letters a reading holds, each counted each time it is reached (what is shared counts as often as it is met; a slice's spare places count too). A statement '..UptoSaid' is the law's where the arguments, and the package variables that the reading takes, are together of bulk at most 1048576: NARROWER than '..Said'. Prove '..Said' where nothing that the law and all that it calls make is longer than what came in: it says more and counts as full. Else prove '..UptoSaid'. A law counts once. -/
mutual
def uptoBulk {H : Type} : DataW H → Nat
  | .lit (.string bytes) => bytes.length + 1
  | .lit _ => 1
  | .nil => 1
  | .ptr d => uptoBulk d + 1
  | .slice elems spare => uptoBulkAll elems + uptoBulkAll spare + 1
  | .agg parts => uptoBulkAll parts + 1
  | .iface _ d => uptoBulk d + 1
  | .map entries => uptoBulkEntries entries + 1
  | .held _ => 1
def uptoBulkAll {H : Type} : List (DataW H) → Nat
  | [] => 0
  | d :: r => uptoBulk d + uptoBulkAll r
def uptoBulkEntries {H : Type} : List (Lit × DataW H) → Nat
  | [] => 0
  | x :: r => uptoBulkEntry x + uptoBulkEntries r
def uptoBulkEntry {H : Type} : Lit × DataW H → Nat
  | (.string bytes, d) => bytes.length + uptoBulk d + 1
  | (_, d) => uptoBulk d + 1
 end
def uptoSmall : (H : Type) → List (DataW H) → Bool := fun _ ds => decide (uptoBulkAll ds ≤ 1048576)
def OpenSpec.upto (s : _root_.Go.ChangeSpec) : _root_.Go.OpenSpec := { _root_.Go.OpenSpec.ofChange s with cond := some uptoSmall }

/-- 'laws.FnAbsOut', WHERE WHAT IT READS IS OF BULK AT MOST 1048576: true; the input reads as it did. -/
def fnAbsOutUptoRow : OpenClaim := { program := "ytdpooiiacdfpkaa", sum := "bdfab67096706f35f2e153d377adc850893f98ddaea2164feb7473621b002bc7", func := "loop.example/outwork/laws.FnAbsOut", spec := "fnAbsOut", unfollowed := true, recurses := true, apart := false, narrowed := true }
def FnAbsOutUptoSaid : Prop := fnAbsOutUptoRow.holds Try.pinned (OpenSpec.upto fnAbsOutSpec)

/-- 'laws.FnExactAbsJoin', WHERE WHAT IT READS IS OF BULK AT MOST 1048576: true; the input reads as it did. -/
def fnExactAbsJoinUptoRow : OpenClaim := { program := "ytdpooiiacdfpkaa", sum := "bdfab67096706f35f2e153d377adc850893f98ddaea2164feb7473621b002bc7", func := "loop.example/outwork/laws.FnExactAbsJoin", spec := "fnExactAbsJoin", unfollowed := true, recurses := true, apart := false, narrowed := true }
def FnExactAbsJoinUptoSaid : Prop := fnExactAbsJoinUptoRow.holds Try.pinned (OpenSpec.upto fnExactAbsJoinSpec)

/-- 'laws.FnExactAbsWide', WHERE WHAT IT READS IS OF BULK AT MOST 1048576: true; the input reads as it did. -/
def fnExactAbsWideUptoRow : OpenClaim := { program := "ytdpooiiacdfpkaa", sum := "bdfab67096706f35f2e153d377adc850893f98ddaea2164feb7473621b002bc7", func := "loop.example/outwork/laws.FnExactAbsWide", spec := "fnExactAbsWide", unfollowed := true, recurses := true, apart := false, narrowed := true }
def FnExactAbsWideUptoSaid : Prop := fnExactAbsWideUptoRow.holds Try.pinned (OpenSpec.upto fnExactAbsWideSpec)

/-- 'laws.FnAbsJoin', WHERE WHAT IT READS IS OF BULK AT MOST 1048576: true; the input reads as it did. -/
def fnAbsJoinUptoRow : OpenClaim := { program := "ytdpooiiacdfpkaa", sum := "bdfab67096706f35f2e153d377adc850893f98ddaea2164feb7473621b002bc7", func := "loop.example/outwork/laws.FnAbsJoin", spec := "fnAbsJoin", unfollowed := true, recurses := true, apart := false, narrowed := true }
def FnAbsJoinUptoSaid : Prop := fnAbsJoinUptoRow.holds Try.pinned (OpenSpec.upto fnAbsJoinSpec)

/-- 'laws.FnAbsWide', WHERE WHAT IT READS IS OF BULK AT MOST 1048576: true; the input reads as it did. -/
def fnAbsWideUptoRow : OpenClaim := { program := "ytdpooiiacdfpkaa", sum := "bdfab67096706f35f2e153d377adc850893f98ddaea2164feb7473621b002bc7", func := "loop.example/outwork/laws.FnAbsWide", spec := "fnAbsWide", unfollowed := true, recurses := true, apart := false, narrowed := true }
def FnAbsWideUptoSaid : Prop := fnAbsWideUptoRow.holds Try.pinned (OpenSpec.upto fnAbsWideSpec)

end Rows
end Go.Proofs.Ytdpooiiacdfpkaa
