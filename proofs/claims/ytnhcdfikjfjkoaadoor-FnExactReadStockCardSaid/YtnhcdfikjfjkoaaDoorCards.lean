/-
  DERIVED. GIVEN WITH THE SEED: THE CARDS: each row of YtnhcdfikjfjkoaaDoorRows.lean that lists a variable, with what it lists TIED to the program's text (the seventh form; the later family's looks); each row that meets fmt, with fmt's text TOLD by the authors' own Lean function (tested against real Go, not proved from fmt's source: count such statements apart). THE CARD IS WHAT COUNTS. Prove the row's statement (the work); the ties are given (YtnhcdfikjfjkoaaDoorTie.lean); close each card by the builder's one call (the guide's Derived/Test/ToyasCard.lean, 'card_holds'). Laid BY PROGRAM, IN A SANDBOX (cutbox-door.mjs). By AI agents, Wed Nov 11 2026. No macro, syntax, notation, axiom, sorry.
-/
import Derived.Test.YtnhcdfikjfjkoaaDoorRows
import GoSem.ClaimSeven
namespace Go.Proofs.YtnhcdfikjfjkoaaDoor
namespace Rows

/-- THE TIED CARD OF 'laws.FnExactStockText'. -/
def fnExactStockTextCard : Claim7 := { stood := { row := fnExactStockTextRow, standIns := [], harness := (true, "3e0186092e971d4b5e9b422e2db2bc2b928f76f3d456564d2f5b3c9d87f6a990"), looks := true }, kinds := [], alts := [], laidByText := true, laidKinds := [.data, .data, .data], laidTests := true, laidLooks := .later }
def FnExactStockTextCardSaid : Prop := Claim7.holds Tryd.pinned (.plain (OpenSpec.ofChange fnExactStockTextSpec)) fnExactStockTextCard

/-- THE TIED CARD OF 'laws.FnExactReadStock'. -/
def fnExactReadStockCard : Claim7 := { stood := { row := fnExactReadStockRow, standIns := [], harness := (true, "3e0186092e971d4b5e9b422e2db2bc2b928f76f3d456564d2f5b3c9d87f6a990"), looks := true }, kinds := [], alts := [], laidByText := true, laidKinds := [.data, .data, .data, .data, .sentinel, .sentinel, .pinned], laidTests := true, laidLooks := .later }
def FnExactReadStockCardSaid : Prop := Claim7.holds Tryd.pinned (.plain (OpenSpec.ofChange fnExactReadStockSpec)) fnExactReadStockCard

/-- THE SECOND FORM's CARD OF 'laws.FnExactStockText'. -/
def fnExactStockTextUptoCard : Claim7 := { stood := { row := fnExactStockTextUptoRow, standIns := [], harness := (true, "3e0186092e971d4b5e9b422e2db2bc2b928f76f3d456564d2f5b3c9d87f6a990"), looks := true }, kinds := [], alts := [], laidByText := true, laidKinds := [.data, .data, .data], laidTests := true, laidLooks := .later }
def FnExactStockTextUptoCardSaid : Prop := Claim7.holds Tryd.pinned (.plain (OpenSpec.upto fnExactStockTextSpec)) fnExactStockTextUptoCard

/-- THE SECOND FORM's CARD OF 'laws.FnExactReadStock'. -/
def fnExactReadStockUptoCard : Claim7 := { stood := { row := fnExactReadStockUptoRow, standIns := [], harness := (true, "3e0186092e971d4b5e9b422e2db2bc2b928f76f3d456564d2f5b3c9d87f6a990"), looks := true }, kinds := [], alts := [], laidByText := true, laidKinds := [.data, .data, .data, .data, .sentinel, .sentinel, .pinned], laidTests := true, laidLooks := .later }
def FnExactReadStockUptoCardSaid : Prop := Claim7.holds Tryd.pinned (.plain (OpenSpec.upto fnExactReadStockSpec)) fnExactReadStockUptoCard
end Rows
end Go.Proofs.YtnhcdfikjfjkoaaDoor
