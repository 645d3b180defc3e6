/-
  DERIVED. GIVEN WITH THE SEED: THE CARDS: each row of YtheegkfidpknbaaDoorRows.lean that lists a variable, with what it lists TIED to the program's text (the seventh form; the later family's looks); each row that meets fmt, with fmt's text TOLD by the authors' own Lean function (tested against real Go, not proved from fmt's source: count such statements apart). THE CARD IS WHAT COUNTS. Prove the row's statement (the work); the ties are given (YtheegkfidpknbaaDoorTie.lean); close each card by the builder's one call (the guide's Derived/Test/ToyasCard.lean, 'card_holds'). Laid BY PROGRAM, IN A SANDBOX (cutbox-door.mjs). By AI agents, Wed Nov 11 2026. No macro, syntax, notation, axiom, sorry.
-/
import Derived.Test.YtheegkfidpknbaaDoorRows
import GoSem.ClaimSeven
namespace Go.Proofs.YtheegkfidpknbaaDoor
namespace Rows

/-- THE TIED CARD OF 'laws.FnNumText'. -/
def fnNumTextCard : Claim7 := { stood := { row := fnNumTextRow, standIns := [], harness := (true, "c6d6710b8addb08af1c15af4efa53f3943c27fa3bcc9d7a145ff502e859e6fd7"), looks := true }, kinds := [], alts := [], laidByText := true, laidKinds := [.data, .data, .data, .sentinel, .sentinel], laidTests := true, laidLooks := .later }
def FnNumTextCardSaid : Prop := Claim7.holds Tryd.pinned (.plain (OpenSpec.ofChange fnNumTextSpec)) fnNumTextCard

/-- THE TIED CARD OF 'laws.FnExactItvRead'. -/
def fnExactItvReadCard : Claim7 := { stood := { row := fnExactItvReadRow, standIns := [], harness := (true, "c6d6710b8addb08af1c15af4efa53f3943c27fa3bcc9d7a145ff502e859e6fd7"), looks := true }, kinds := [], alts := [], laidByText := true, laidKinds := [.data, .data, .data, .sentinel, .sentinel], laidTests := true, laidLooks := .later }
def FnExactItvReadCardSaid : Prop := Claim7.holds Tryd.pinned (.plain (OpenSpec.ofChange fnExactItvReadSpec)) fnExactItvReadCard

/-- THE TIED CARD OF 'laws.FnItvText'. -/
def fnItvTextCard : Claim7 := { stood := { row := fnItvTextRow, standIns := [], harness := (true, "c6d6710b8addb08af1c15af4efa53f3943c27fa3bcc9d7a145ff502e859e6fd7"), looks := true }, kinds := [], alts := [], laidByText := true, laidKinds := [.data, .data, .data, .sentinel, .sentinel], laidTests := true, laidLooks := .later }
def FnItvTextCardSaid : Prop := Claim7.holds Tryd.pinned (.plain (OpenSpec.ofChange fnItvTextSpec)) fnItvTextCard

/-- THE TIED CARD OF 'laws.FnExactNumText'. -/
def fnExactNumTextCard : Claim7 := { stood := { row := fnExactNumTextRow, standIns := [], harness := (true, "c6d6710b8addb08af1c15af4efa53f3943c27fa3bcc9d7a145ff502e859e6fd7"), looks := true }, kinds := [], alts := [], laidByText := true, laidKinds := [.data, .data, .data], laidTests := true, laidLooks := .later }
def FnExactNumTextCardSaid : Prop := Claim7.holds Tryd.pinned (.plain (OpenSpec.ofChange fnExactNumTextSpec)) fnExactNumTextCard

/-- THE TIED CARD OF 'laws.FnExactItvText'. -/
def fnExactItvTextCard : Claim7 := { stood := { row := fnExactItvTextRow, standIns := [], harness := (true, "c6d6710b8addb08af1c15af4efa53f3943c27fa3bcc9d7a145ff502e859e6fd7"), looks := true }, kinds := [], alts := [], laidByText := true, laidKinds := [.data, .data, .data], laidTests := true, laidLooks := .later }
def FnExactItvTextCardSaid : Prop := Claim7.holds Tryd.pinned (.plain (OpenSpec.ofChange fnExactItvTextSpec)) fnExactItvTextCard

/-- THE TIED CARD OF 'laws.FnExactNumRead'. -/
def fnExactNumReadCard : Claim7 := { stood := { row := fnExactNumReadRow, standIns := [], harness := (true, "c6d6710b8addb08af1c15af4efa53f3943c27fa3bcc9d7a145ff502e859e6fd7"), looks := true }, kinds := [], alts := [], laidByText := true, laidKinds := [.data, .data, .data, .sentinel, .sentinel], laidTests := true, laidLooks := .later }
def FnExactNumReadCardSaid : Prop := Claim7.holds Tryd.pinned (.plain (OpenSpec.ofChange fnExactNumReadSpec)) fnExactNumReadCard

/-- THE SECOND FORM's CARD OF 'laws.FnNumText'. -/
def fnNumTextUptoCard : Claim7 := { stood := { row := fnNumTextUptoRow, standIns := [], harness := (true, "c6d6710b8addb08af1c15af4efa53f3943c27fa3bcc9d7a145ff502e859e6fd7"), looks := true }, kinds := [], alts := [], laidByText := true, laidKinds := [.data, .data, .data, .sentinel, .sentinel], laidTests := true, laidLooks := .later }
def FnNumTextUptoCardSaid : Prop := Claim7.holds Tryd.pinned (.plain (OpenSpec.upto fnNumTextSpec)) fnNumTextUptoCard

/-- THE SECOND FORM's CARD OF 'laws.FnExactItvRead'. -/
def fnExactItvReadUptoCard : Claim7 := { stood := { row := fnExactItvReadUptoRow, standIns := [], harness := (true, "c6d6710b8addb08af1c15af4efa53f3943c27fa3bcc9d7a145ff502e859e6fd7"), looks := true }, kinds := [], alts := [], laidByText := true, laidKinds := [.data, .data, .data, .sentinel, .sentinel], laidTests := true, laidLooks := .later }
def FnExactItvReadUptoCardSaid : Prop := Claim7.holds Tryd.pinned (.plain (OpenSpec.upto fnExactItvReadSpec)) fnExactItvReadUptoCard

/-- THE SECOND FORM's CARD OF 'laws.FnItvText'. -/
def fnItvTextUptoCard : Claim7 := { stood := { row := fnItvTextUptoRow, standIns := [], harness := (true, "c6d6710b8addb08af1c15af4efa53f3943c27fa3bcc9d7a145ff502e859e6fd7"), looks := true }, kinds := [], alts := [], laidByText := true, laidKinds := [.data, .data, .data, .sentinel, .sentinel], laidTests := true, laidLooks := .later }
def FnItvTextUptoCardSaid : Prop := Claim7.holds Tryd.pinned (.plain (OpenSpec.upto fnItvTextSpec)) fnItvTextUptoCard

/-- THE SECOND FORM's CARD OF 'laws.FnExactNumText'. -/
def fnExactNumTextUptoCard : Claim7 := { stood := { row := fnExactNumTextUptoRow, standIns := [], harness := (true, "c6d6710b8addb08af1c15af4efa53f3943c27fa3bcc9d7a145ff502e859e6fd7"), looks := true }, kinds := [], alts := [], laidByText := true, laidKinds := [.data, .data, .data], laidTests := true, laidLooks := .later }
def FnExactNumTextUptoCardSaid : Prop := Claim7.holds Tryd.pinned (.plain (OpenSpec.upto fnExactNumTextSpec)) fnExactNumTextUptoCard

/-- THE SECOND FORM's CARD OF 'laws.FnExactItvText'. -/
def fnExactItvTextUptoCard : Claim7 := { stood := { row := fnExactItvTextUptoRow, standIns := [], harness := (true, "c6d6710b8addb08af1c15af4efa53f3943c27fa3bcc9d7a145ff502e859e6fd7"), looks := true }, kinds := [], alts := [], laidByText := true, laidKinds := [.data, .data, .data], laidTests := true, laidLooks := .later }
def FnExactItvTextUptoCardSaid : Prop := Claim7.holds Tryd.pinned (.plain (OpenSpec.upto fnExactItvTextSpec)) fnExactItvTextUptoCard

/-- THE SECOND FORM's CARD OF 'laws.FnExactNumRead'. -/
def fnExactNumReadUptoCard : Claim7 := { stood := { row := fnExactNumReadUptoRow, standIns := [], harness := (true, "c6d6710b8addb08af1c15af4efa53f3943c27fa3bcc9d7a145ff502e859e6fd7"), looks := true }, kinds := [], alts := [], laidByText := true, laidKinds := [.data, .data, .data, .sentinel, .sentinel], laidTests := true, laidLooks := .later }
def FnExactNumReadUptoCardSaid : Prop := Claim7.holds Tryd.pinned (.plain (OpenSpec.upto fnExactNumReadSpec)) fnExactNumReadUptoCard
end Rows
end Go.Proofs.YtheegkfidpknbaaDoor
