/-
  DERIVED. GIVEN WITH THE SEED: THE CARDS: each row of YtipdmnibjkdpcaaDoorRows.lean that lists a variable, with what it lists TIED to the program's text (the seventh form; the later family's looks); each row that meets fmt, with fmt's text TOLD by the authors' own Lean function (tested against real Go, not proved from fmt's source: count such statements apart). THE CARD IS WHAT COUNTS. Prove the row's statement (the work); the ties are given (YtipdmnibjkdpcaaDoorTie.lean); close each card by the builder's one call (the guide's Derived/Test/ToyasCard.lean, 'card_holds'). Laid BY PROGRAM, IN A SANDBOX (cutbox-door.mjs). By AI agents, Wed Nov 11 2026. No macro, syntax, notation, axiom, sorry.
-/
import Derived.Test.YtipdmnibjkdpcaaDoorRows
import GoSem.ClaimSeven
namespace Go.Proofs.YtipdmnibjkdpcaaDoor
namespace Rows

/-- THE TIED CARD OF 'laws.FnExactBoxesText'. -/
def fnExactBoxesTextCard : Claim7 := { stood := { row := fnExactBoxesTextRow, standIns := [], harness := (true, "03197457577063773230626a30b5bd9ed0419f7cb4c0b390a36761d125b8c707"), looks := true }, kinds := [], alts := [], laidByText := true, laidKinds := [.data, .data, .data], laidTests := true, laidLooks := .later }
def FnExactBoxesTextCardSaid : Prop := Claim7.holds Tryd.pinned (.plain (OpenSpec.ofChange fnExactBoxesTextSpec)) fnExactBoxesTextCard

/-- THE TIED CARD OF 'laws.FnExactReadBoxes'. -/
def fnExactReadBoxesCard : Claim7 := { stood := { row := fnExactReadBoxesRow, standIns := [], harness := (true, "03197457577063773230626a30b5bd9ed0419f7cb4c0b390a36761d125b8c707"), looks := true }, kinds := [], alts := [], laidByText := true, laidKinds := [.data, .data, .data, .data, .sentinel, .sentinel, .pinned], laidTests := true, laidLooks := .later }
def FnExactReadBoxesCardSaid : Prop := Claim7.holds Tryd.pinned (.plain (OpenSpec.ofChange fnExactReadBoxesSpec)) fnExactReadBoxesCard

/-- THE SECOND FORM's CARD OF 'laws.FnExactBoxesText'. -/
def fnExactBoxesTextUptoCard : Claim7 := { stood := { row := fnExactBoxesTextUptoRow, standIns := [], harness := (true, "03197457577063773230626a30b5bd9ed0419f7cb4c0b390a36761d125b8c707"), looks := true }, kinds := [], alts := [], laidByText := true, laidKinds := [.data, .data, .data], laidTests := true, laidLooks := .later }
def FnExactBoxesTextUptoCardSaid : Prop := Claim7.holds Tryd.pinned (.plain (OpenSpec.upto fnExactBoxesTextSpec)) fnExactBoxesTextUptoCard

/-- THE SECOND FORM's CARD OF 'laws.FnExactReadBoxes'. -/
def fnExactReadBoxesUptoCard : Claim7 := { stood := { row := fnExactReadBoxesUptoRow, standIns := [], harness := (true, "03197457577063773230626a30b5bd9ed0419f7cb4c0b390a36761d125b8c707"), looks := true }, kinds := [], alts := [], laidByText := true, laidKinds := [.data, .data, .data, .data, .sentinel, .sentinel, .pinned], laidTests := true, laidLooks := .later }
def FnExactReadBoxesUptoCardSaid : Prop := Claim7.holds Tryd.pinned (.plain (OpenSpec.upto fnExactReadBoxesSpec)) fnExactReadBoxesUptoCard
end Rows
end Go.Proofs.YtipdmnibjkdpcaaDoor
