/-
  No cell of these rows narrows 'for every input' (looked for: loops, veiled, ifaces, maps, wideKeys, modest, calm, conditions, laid).
  DERIVED. THE GIVEN ROWS OF THIS SEAT. 5 by the template 'for every input the law returns true; each argument reads behind the call as it read before'; 0 by the template 'total and deterministic' (their statements: YtlffagkapmjbjaaTotals.lean).
  GIVEN WITH THE SEED: the statements are not yours to turn. If you find one false, say at which input.
  Laid BY PROGRAM, IN A SANDBOX (cutbox-rows.mjs): the forced cells as the released guide's own fill.sh prints them over the translation 83a0abd3bf9ecbcb… (all of the seat's roots in one cut). By AI agents, Wed Nov 11 2026. No macro, syntax, notation, axiom, sorry.
-/
import Derived.Test.YtlffagkapmjbjaaChecked
import GoSem.Claim
import GoSem.ClaimJoined
import GoSem.ClaimMapViews
import Derived.JoinedTies
import Derived.KernelRfl
namespace Go.Proofs.Ytlffagkapmjbjaa
/- THE CELL 'sum', in the pinned program and in every row, IS THE sha256 OF THE DUMP (.gsa) THAT YtlffagkapmjbjaaProg.lean LOADS. Nothing in Lean hashes anything: it is a label: what it is worth is what the hold of that sum in a sandbox is worth. -/
noncomputable def Try.pinned : Pinned := { name := "ytlffagkapmjbjaa", sum := "83a0abd3bf9ecbcb72bb1cebb3ff846f4a034af188f60a37bcbbd85bbfdc001f", checked := Try.checked }
namespace Rows
def none {H : Type} : Left H := { results := [], args := [] }

/-- 'laws.FnExactConstants': WHATEVER THE INPUT: true; the input reads as it did. -/
def fnExactConstantsSpec : ChangeSpec := { name := "fnExactConstants", fn := fun _ => fun
  | [] => { results := [.lit (.bool true)], args := [] }
  | _ => none }
def fnExactConstantsRow : OpenClaim := { program := "ytlffagkapmjbjaa", sum := "83a0abd3bf9ecbcb72bb1cebb3ff846f4a034af188f60a37bcbbd85bbfdc001f", func := "loop.example/outwork/laws.FnExactConstants", spec := "fnExactConstants", apart := false }
def FnExactConstantsSaid : Prop := fnExactConstantsRow.holds Try.pinned (OpenSpec.ofChange fnExactConstantsSpec)

/-- ITS FALSE NEIGHBOUR: 'it returns false'. Refute it at one input. -/
def fnExactConstantsWrong : ChangeSpec := { name := "fnExactConstants", fn := fun _ => fun
  | [] => { results := [.lit (.bool false)], args := [] }
  | _ => none }
def FnExactConstantsWrongFalsely : Prop := fnExactConstantsRow.holds Try.pinned (OpenSpec.ofChange fnExactConstantsWrong)

/-- 'laws.FnExactNumOk': WHATEVER THE INPUT: true; the input reads as it did. -/
def fnExactNumOkSpec : ChangeSpec := { name := "fnExactNumOk", fn := fun _ => fun
  | [d] => { results := [.lit (.bool true)], args := [d] }
  | _ => none }
def fnExactNumOkRow : OpenClaim := { program := "ytlffagkapmjbjaa", sum := "83a0abd3bf9ecbcb72bb1cebb3ff846f4a034af188f60a37bcbbd85bbfdc001f", func := "loop.example/outwork/laws.FnExactNumOk", spec := "fnExactNumOk", apart := false }
def FnExactNumOkSaid : Prop := fnExactNumOkRow.holds Try.pinned (OpenSpec.ofChange fnExactNumOkSpec)

/-- ITS FALSE NEIGHBOUR: 'it returns false'. Refute it at one input. -/
def fnExactNumOkWrong : ChangeSpec := { name := "fnExactNumOk", fn := fun _ => fun
  | [d] => { results := [.lit (.bool false)], args := [d] }
  | _ => none }
def FnExactNumOkWrongFalsely : Prop := fnExactNumOkRow.holds Try.pinned (OpenSpec.ofChange fnExactNumOkWrong)

/-- 'laws.FnExactInsRisks': WHATEVER THE INPUT: true; the input reads as it did. -/
def fnExactInsRisksSpec : ChangeSpec := { name := "fnExactInsRisks", fn := fun _ => fun
  | [d] => { results := [.lit (.bool true)], args := [d] }
  | _ => none }
def fnExactInsRisksRow : OpenClaim := { program := "ytlffagkapmjbjaa", sum := "83a0abd3bf9ecbcb72bb1cebb3ff846f4a034af188f60a37bcbbd85bbfdc001f", func := "loop.example/outwork/laws.FnExactInsRisks", spec := "fnExactInsRisks", apart := false }
def FnExactInsRisksSaid : Prop := fnExactInsRisksRow.holds Try.pinned (OpenSpec.ofChange fnExactInsRisksSpec)

/-- ITS FALSE NEIGHBOUR: 'it returns false'. Refute it at one input. -/
def fnExactInsRisksWrong : ChangeSpec := { name := "fnExactInsRisks", fn := fun _ => fun
  | [d] => { results := [.lit (.bool false)], args := [d] }
  | _ => none }
def FnExactInsRisksWrongFalsely : Prop := fnExactInsRisksRow.holds Try.pinned (OpenSpec.ofChange fnExactInsRisksWrong)

/-- 'laws.FnExactNumWrap': WHATEVER THE INPUT: true; the input reads as it did. -/
def fnExactNumWrapSpec : ChangeSpec := { name := "fnExactNumWrap", fn := fun _ => fun
  | [d] => { results := [.lit (.bool true)], args := [d] }
  | _ => none }
def fnExactNumWrapRow : OpenClaim := { program := "ytlffagkapmjbjaa", sum := "83a0abd3bf9ecbcb72bb1cebb3ff846f4a034af188f60a37bcbbd85bbfdc001f", func := "loop.example/outwork/laws.FnExactNumWrap", spec := "fnExactNumWrap", apart := false }
def FnExactNumWrapSaid : Prop := fnExactNumWrapRow.holds Try.pinned (OpenSpec.ofChange fnExactNumWrapSpec)

/-- ITS FALSE NEIGHBOUR: 'it returns false'. Refute it at one input. -/
def fnExactNumWrapWrong : ChangeSpec := { name := "fnExactNumWrap", fn := fun _ => fun
  | [d] => { results := [.lit (.bool false)], args := [d] }
  | _ => none }
def FnExactNumWrapWrongFalsely : Prop := fnExactNumWrapRow.holds Try.pinned (OpenSpec.ofChange fnExactNumWrapWrong)

/-- 'laws.FnExactItvAll': WHATEVER THE INPUT: true; the input reads as it did. -/
def fnExactItvAllSpec : ChangeSpec := { name := "fnExactItvAll", fn := fun _ => fun
  | [] => { results := [.lit (.bool true)], args := [] }
  | _ => none }
def fnExactItvAllRow : OpenClaim := { program := "ytlffagkapmjbjaa", sum := "83a0abd3bf9ecbcb72bb1cebb3ff846f4a034af188f60a37bcbbd85bbfdc001f", func := "loop.example/outwork/laws.FnExactItvAll", spec := "fnExactItvAll", apart := false }
def FnExactItvAllSaid : Prop := fnExactItvAllRow.holds Try.pinned (OpenSpec.ofChange fnExactItvAllSpec)

/-- ITS FALSE NEIGHBOUR: 'it returns false'. Refute it at one input. -/
def fnExactItvAllWrong : ChangeSpec := { name := "fnExactItvAll", fn := fun _ => fun
  | [] => { results := [.lit (.bool false)], args := [] }
  | _ => none }
def FnExactItvAllWrongFalsely : Prop := fnExactItvAllRow.holds Try.pinned (OpenSpec.ofChange fnExactItvAllWrong)

/- THE SECOND FORM. 'bulk': how many values and letters a reading holds, each counted each time it is reached (what is shared counts as often as it is met; a slice's spare places count too). A statement '..UptoSaid' is the law's where the arguments, and the package variables that the reading takes, are together of bulk at most 1048576: NARROWER than '..Said'. Prove '..Said' where nothing that the law and all that it calls make is longer than what came in: it says more and counts as full. Else prove '..UptoSaid'. A law counts once. -/
mutual
def uptoBulk {H : Type} : DataW H → Nat
  | .lit (.string bytes) => bytes.length + 1
  | .lit _ => 1
  | .nil => 1
  | .ptr d => uptoBulk d + 1
  | .slice elems spare => uptoBulkAll elems + uptoBulkAll spare + 1
  | .agg parts => uptoBulkAll parts + 1
  | .iface _ d => uptoBulk d + 1
  | .map entries => uptoBulkEntries entries + 1
  | .held _ => 1
def uptoBulkAll {H : Type} : List (DataW H) → Nat
  | [] => 0
  | d :: r => uptoBulk d + uptoBulkAll r
def uptoBulkEntries {H : Type} : List (Lit × DataW H) → Nat
  | [] => 0
  | x :: r => uptoBulkEntry x + uptoBulkEntries r
def uptoBulkEntry {H : Type} : Lit × DataW H → Nat
  | (.string bytes, d) => bytes.length + uptoBulk d + 1
  | (_, d) => uptoBulk d + 1
 end
def uptoSmall : (H : Type) → List (DataW H) → Bool := fun _ ds => decide (uptoBulkAll ds ≤ 1048576)
def OpenSpec.upto (s : _root_.Go.ChangeSpec) : _root_.Go.OpenSpec := { _root_.Go.OpenSpec.ofChange s with cond := some uptoSmall }

/-- 'laws.FnExactConstants', WHERE WHAT IT READS IS OF BULK AT MOST 1048576: true; the input reads as it did. -/
def fnExactConstantsUptoRow : OpenClaim := { program := "ytlffagkapmjbjaa", sum := "83a0abd3bf9ecbcb72bb1cebb3ff846f4a034af188f60a37bcbbd85bbfdc001f", func := "loop.example/outwork/laws.FnExactConstants", spec := "fnExactConstants", apart := false, narrowed := true }
def FnExactConstantsUptoSaid : Prop := fnExactConstantsUptoRow.holds Try.pinned (OpenSpec.upto fnExactConstantsSpec)

/-- 'laws.FnExactNumOk', WHERE WHAT IT READS IS OF BULK AT MOST 1048576: true; the input reads as it did. -/
def fnExactNumOkUptoRow : OpenClaim := { program := "ytlffagkapmjbjaa", sum := "83a0abd3bf9ecbcb72bb1cebb3ff846f4a034af188f60a37bcbbd85bbfdc001f", func := "loop.example/outwork/laws.FnExactNumOk", spec := "fnExactNumOk", apart := false, narrowed := true }
def FnExactNumOkUptoSaid : Prop := fnExactNumOkUptoRow.holds Try.pinned (OpenSpec.upto fnExactNumOkSpec)

/-- 'laws.FnExactInsRisks', WHERE WHAT IT READS IS OF BULK AT MOST 1048576: true; the input reads as it did. -/
def fnExactInsRisksUptoRow : OpenClaim := { program := "ytlffagkapmjbjaa", sum := "83a0abd3bf9ecbcb72bb1cebb3ff846f4a034af188f60a37bcbbd85bbfdc001f", func := "loop.example/outwork/laws.FnExactInsRisks", spec := "fnExactInsRisks", apart := false, narrowed := true }
def FnExactInsRisksUptoSaid : Prop := fnExactInsRisksUptoRow.holds Try.pinned (OpenSpec.upto fnExactInsRisksSpec)

/-- 'laws.FnExactNumWrap', WHERE WHAT IT READS IS OF BULK AT MOST 1048576: true; the input reads as it did. -/
def fnExactNumWrapUptoRow : OpenClaim := { program := "ytlffagkapmjbjaa", sum := "83a0abd3bf9ecbcb72bb1cebb3ff846f4a034af188f60a37bcbbd85bbfdc001f", func := "loop.example/outwork/laws.FnExactNumWrap", spec := "fnExactNumWrap", apart := false, narrowed := true }
def FnExactNumWrapUptoSaid : Prop := fnExactNumWrapUptoRow.holds Try.pinned (OpenSpec.upto fnExactNumWrapSpec)

/-- 'laws.FnExactItvAll', WHERE WHAT IT READS IS OF BULK AT MOST 1048576: true; the input reads as it did. -/
def fnExactItvAllUptoRow : OpenClaim := { program := "ytlffagkapmjbjaa", sum := "83a0abd3bf9ecbcb72bb1cebb3ff846f4a034af188f60a37bcbbd85bbfdc001f", func := "loop.example/outwork/laws.FnExactItvAll", spec := "fnExactItvAll", apart := false, narrowed := true }
def FnExactItvAllUptoSaid : Prop := fnExactItvAllUptoRow.holds Try.pinned (OpenSpec.upto fnExactItvAllSpec)

end Rows
end Go.Proofs.Ytlffagkapmjbjaa
