/-
  No cell of these rows narrows 'for every input' (looked for: loops, veiled, ifaces, maps, wideKeys, modest, calm, conditions, laid).
  DERIVED. THE GIVEN ROWS OF THIS SEAT. 12 by the template 'for every input the law returns true; each argument reads behind the call as it read before'; 0 by the template 'total and deterministic' (their statements: YtmbbkaoccmokeaaTotals.lean).
  GIVEN WITH THE SEED: the statements are not yours to turn. If you find one false, say at which input.
  Laid BY PROGRAM, IN A SANDBOX (cutbox-rows.mjs): the forced cells as the released guide's own fill.sh prints them over the translation f168f734009a2c13… (all of the seat's roots in one cut). By AI agents, Wed Nov 11 2026. No macro, syntax, notation, axiom, sorry.
-/
import Derived.Test.YtmbbkaoccmokeaaChecked
import GoSem.Claim
import GoSem.ClaimJoined
import GoSem.ClaimMapViews
import Derived.JoinedTies
import Derived.KernelRfl
namespace Go.Proofs.Ytmbbkaoccmokeaa
/- THE CELL 'sum', in the pinned program and in every row, IS THE sha256 OF THE DUMP (.gsa) THAT YtmbbkaoccmokeaaProg.lean LOADS. Nothing in Lean hashes anything: it is a label: what it is worth is what the hold of that sum in a sandbox is worth. -/
noncomputable def Try.pinned : Pinned := { name := "ytmbbkaoccmokeaa", sum := "f168f734009a2c136a63755cce287a051ef775a989c205df92f48b139987b229", checked := Try.checked }
namespace Rows
def none {H : Type} : Left H := { results := [], args := [] }

/-- 'laws.FnExactValidBox': WHATEVER THE INPUT: true; the input reads as it did. -/
def fnExactValidBoxSpec : ChangeSpec := { name := "fnExactValidBox", fn := fun _ => fun
  | [d] => { results := [.lit (.bool true)], args := [d] }
  | _ => none }
def fnExactValidBoxRow : OpenClaim := { program := "ytmbbkaoccmokeaa", sum := "f168f734009a2c136a63755cce287a051ef775a989c205df92f48b139987b229", func := "loop.example/g01366/laws.FnExactValidBox", spec := "fnExactValidBox", unfollowed := true, recurses := true, apart := false }
def FnExactValidBoxSaid : Prop := fnExactValidBoxRow.holds Try.pinned (OpenSpec.ofChange fnExactValidBoxSpec)

/-- ITS FALSE NEIGHBOUR: 'it returns false'. Refute it at one input. -/
def fnExactValidBoxWrong : ChangeSpec := { name := "fnExactValidBox", fn := fun _ => fun
  | [d] => { results := [.lit (.bool false)], args := [d] }
  | _ => none }
def FnExactValidBoxWrongFalsely : Prop := fnExactValidBoxRow.holds Try.pinned (OpenSpec.ofChange fnExactValidBoxWrong)

/-- 'laws.FnExactSameBox': WHATEVER THE INPUT: true; the input reads as it did. -/
def fnExactSameBoxSpec : ChangeSpec := { name := "fnExactSameBox", fn := fun _ => fun
  | [d1, d2] => { results := [.lit (.bool true)], args := [d1, d2] }
  | _ => none }
def fnExactSameBoxRow : OpenClaim := { program := "ytmbbkaoccmokeaa", sum := "f168f734009a2c136a63755cce287a051ef775a989c205df92f48b139987b229", func := "loop.example/g01366/laws.FnExactSameBox", spec := "fnExactSameBox", apart := false }
def FnExactSameBoxSaid : Prop := fnExactSameBoxRow.holds Try.pinned (OpenSpec.ofChange fnExactSameBoxSpec)

/-- ITS FALSE NEIGHBOUR: 'it returns false'. Refute it at one input. -/
def fnExactSameBoxWrong : ChangeSpec := { name := "fnExactSameBox", fn := fun _ => fun
  | [d1, d2] => { results := [.lit (.bool false)], args := [d1, d2] }
  | _ => none }
def FnExactSameBoxWrongFalsely : Prop := fnExactSameBoxRow.holds Try.pinned (OpenSpec.ofChange fnExactSameBoxWrong)

/-- 'laws.FnExactSortBox': WHATEVER THE INPUT: true; the input reads as it did. -/
def fnExactSortBoxSpec : ChangeSpec := { name := "fnExactSortBox", fn := fun _ => fun
  | [d] => { results := [.lit (.bool true)], args := [d] }
  | _ => none }
def fnExactSortBoxRow : OpenClaim := { program := "ytmbbkaoccmokeaa", sum := "f168f734009a2c136a63755cce287a051ef775a989c205df92f48b139987b229", func := "loop.example/g01366/laws.FnExactSortBox", spec := "fnExactSortBox", unfollowed := true, recurses := true, apart := false }
def FnExactSortBoxSaid : Prop := fnExactSortBoxRow.holds Try.pinned (OpenSpec.ofChange fnExactSortBoxSpec)

/-- ITS FALSE NEIGHBOUR: 'it returns false'. Refute it at one input. -/
def fnExactSortBoxWrong : ChangeSpec := { name := "fnExactSortBox", fn := fun _ => fun
  | [d] => { results := [.lit (.bool false)], args := [d] }
  | _ => none }
def FnExactSortBoxWrongFalsely : Prop := fnExactSortBoxRow.holds Try.pinned (OpenSpec.ofChange fnExactSortBoxWrong)

/-- 'laws.FnExactTurnsOf': WHATEVER THE INPUT: true; the input reads as it did. -/
def fnExactTurnsOfSpec : ChangeSpec := { name := "fnExactTurnsOf", fn := fun _ => fun
  | [d] => { results := [.lit (.bool true)], args := [d] }
  | _ => none }
def fnExactTurnsOfRow : OpenClaim := { program := "ytmbbkaoccmokeaa", sum := "f168f734009a2c136a63755cce287a051ef775a989c205df92f48b139987b229", func := "loop.example/g01366/laws.FnExactTurnsOf", spec := "fnExactTurnsOf", unfollowed := true, recurses := true, apart := false }
def FnExactTurnsOfSaid : Prop := fnExactTurnsOfRow.holds Try.pinned (OpenSpec.ofChange fnExactTurnsOfSpec)

/-- ITS FALSE NEIGHBOUR: 'it returns false'. Refute it at one input. -/
def fnExactTurnsOfWrong : ChangeSpec := { name := "fnExactTurnsOf", fn := fun _ => fun
  | [d] => { results := [.lit (.bool false)], args := [d] }
  | _ => none }
def FnExactTurnsOfWrongFalsely : Prop := fnExactTurnsOfRow.holds Try.pinned (OpenSpec.ofChange fnExactTurnsOfWrong)

/-- 'laws.FnExactVolumeOf': WHATEVER THE INPUT: true; the input reads as it did. -/
def fnExactVolumeOfSpec : ChangeSpec := { name := "fnExactVolumeOf", fn := fun _ => fun
  | [d] => { results := [.lit (.bool true)], args := [d] }
  | _ => none }
def fnExactVolumeOfRow : OpenClaim := { program := "ytmbbkaoccmokeaa", sum := "f168f734009a2c136a63755cce287a051ef775a989c205df92f48b139987b229", func := "loop.example/g01366/laws.FnExactVolumeOf", spec := "fnExactVolumeOf", unfollowed := true, recurses := true, apart := false }
def FnExactVolumeOfSaid : Prop := fnExactVolumeOfRow.holds Try.pinned (OpenSpec.ofChange fnExactVolumeOfSpec)

/-- ITS FALSE NEIGHBOUR: 'it returns false'. Refute it at one input. -/
def fnExactVolumeOfWrong : ChangeSpec := { name := "fnExactVolumeOf", fn := fun _ => fun
  | [d] => { results := [.lit (.bool false)], args := [d] }
  | _ => none }
def FnExactVolumeOfWrongFalsely : Prop := fnExactVolumeOfRow.holds Try.pinned (OpenSpec.ofChange fnExactVolumeOfWrong)

/-- 'laws.FnExactStringFor': WHATEVER THE INPUT: true; the input reads as it did. -/
def fnExactStringForSpec : ChangeSpec := { name := "fnExactStringFor", fn := fun _ => fun
  | [d1, d2] => { results := [.lit (.bool true)], args := [d1, d2] }
  | _ => none }
def fnExactStringForRow : OpenClaim := { program := "ytmbbkaoccmokeaa", sum := "f168f734009a2c136a63755cce287a051ef775a989c205df92f48b139987b229", func := "loop.example/g01366/laws.FnExactStringFor", spec := "fnExactStringFor", unfollowed := true, recurses := true, apart := false }
def FnExactStringForSaid : Prop := fnExactStringForRow.holds Try.pinned (OpenSpec.ofChange fnExactStringForSpec)

/-- ITS FALSE NEIGHBOUR: 'it returns false'. Refute it at one input. -/
def fnExactStringForWrong : ChangeSpec := { name := "fnExactStringFor", fn := fun _ => fun
  | [d1, d2] => { results := [.lit (.bool false)], args := [d1, d2] }
  | _ => none }
def FnExactStringForWrongFalsely : Prop := fnExactStringForRow.holds Try.pinned (OpenSpec.ofChange fnExactStringForWrong)

/-- 'laws.FnExactPaperFor': WHATEVER THE INPUT: true; the input reads as it did. -/
def fnExactPaperForSpec : ChangeSpec := { name := "fnExactPaperFor", fn := fun _ => fun
  | [d] => { results := [.lit (.bool true)], args := [d] }
  | _ => none }
def fnExactPaperForRow : OpenClaim := { program := "ytmbbkaoccmokeaa", sum := "f168f734009a2c136a63755cce287a051ef775a989c205df92f48b139987b229", func := "loop.example/g01366/laws.FnExactPaperFor", spec := "fnExactPaperFor", unfollowed := true, recurses := true, apart := false }
def FnExactPaperForSaid : Prop := fnExactPaperForRow.holds Try.pinned (OpenSpec.ofChange fnExactPaperForSpec)

/-- ITS FALSE NEIGHBOUR: 'it returns false'. Refute it at one input. -/
def fnExactPaperForWrong : ChangeSpec := { name := "fnExactPaperFor", fn := fun _ => fun
  | [d] => { results := [.lit (.bool false)], args := [d] }
  | _ => none }
def FnExactPaperForWrongFalsely : Prop := fnExactPaperForRow.holds Try.pinned (OpenSpec.ofChange fnExactPaperForWrong)

/-- 'laws.FnExactFitsPaper': WHATEVER THE INPUT: true; the input reads as it did. -/
def fnExactFitsPaperSpec : ChangeSpec := { name := "fnExactFitsPaper", fn := fun _ => fun
  | [d1, d2, d3] => { results := [.lit (.bool true)], args := [d1, d2, d3] }
  | _ => none }
def fnExactFitsPaperRow : OpenClaim := { program := "ytmbbkaoccmokeaa", sum := "f168f734009a2c136a63755cce287a051ef775a989c205df92f48b139987b229", func := "loop.example/g01366/laws.FnExactFitsPaper", spec := "fnExactFitsPaper", unfollowed := true, recurses := true, apart := false }
def FnExactFitsPaperSaid : Prop := fnExactFitsPaperRow.holds Try.pinned (OpenSpec.ofChange fnExactFitsPaperSpec)

/-- ITS FALSE NEIGHBOUR: 'it returns false'. Refute it at one input. -/
def fnExactFitsPaperWrong : ChangeSpec := { name := "fnExactFitsPaper", fn := fun _ => fun
  | [d1, d2, d3] => { results := [.lit (.bool false)], args := [d1, d2, d3] }
  | _ => none }
def FnExactFitsPaperWrongFalsely : Prop := fnExactFitsPaperRow.holds Try.pinned (OpenSpec.ofChange fnExactFitsPaperWrong)

/-- 'laws.FnExactLeastCut': WHATEVER THE INPUT: true; the input reads as it did. -/
def fnExactLeastCutSpec : ChangeSpec := { name := "fnExactLeastCut", fn := fun _ => fun
  | [d1, d2] => { results := [.lit (.bool true)], args := [d1, d2] }
  | _ => none }
def fnExactLeastCutRow : OpenClaim := { program := "ytmbbkaoccmokeaa", sum := "f168f734009a2c136a63755cce287a051ef775a989c205df92f48b139987b229", func := "loop.example/g01366/laws.FnExactLeastCut", spec := "fnExactLeastCut", unfollowed := true, recurses := true, apart := false }
def FnExactLeastCutSaid : Prop := fnExactLeastCutRow.holds Try.pinned (OpenSpec.ofChange fnExactLeastCutSpec)

/-- ITS FALSE NEIGHBOUR: 'it returns false'. Refute it at one input. -/
def fnExactLeastCutWrong : ChangeSpec := { name := "fnExactLeastCut", fn := fun _ => fun
  | [d1, d2] => { results := [.lit (.bool false)], args := [d1, d2] }
  | _ => none }
def FnExactLeastCutWrongFalsely : Prop := fnExactLeastCutRow.holds Try.pinned (OpenSpec.ofChange fnExactLeastCutWrong)

/-- 'laws.FnExactCutsFor': WHATEVER THE INPUT: true; the input reads as it did. -/
def fnExactCutsForSpec : ChangeSpec := { name := "fnExactCutsFor", fn := fun _ => fun
  | [d1, d2] => { results := [.lit (.bool true)], args := [d1, d2] }
  | _ => none }
def fnExactCutsForRow : OpenClaim := { program := "ytmbbkaoccmokeaa", sum := "f168f734009a2c136a63755cce287a051ef775a989c205df92f48b139987b229", func := "loop.example/g01366/laws.FnExactCutsFor", spec := "fnExactCutsFor", unfollowed := true, recurses := true, apart := false }
def FnExactCutsForSaid : Prop := fnExactCutsForRow.holds Try.pinned (OpenSpec.ofChange fnExactCutsForSpec)

/-- ITS FALSE NEIGHBOUR: 'it returns false'. Refute it at one input. -/
def fnExactCutsForWrong : ChangeSpec := { name := "fnExactCutsFor", fn := fun _ => fun
  | [d1, d2] => { results := [.lit (.bool false)], args := [d1, d2] }
  | _ => none }
def FnExactCutsForWrongFalsely : Prop := fnExactCutsForRow.holds Try.pinned (OpenSpec.ofChange fnExactCutsForWrong)

/-- 'laws.FnExactHowMany': WHATEVER THE INPUT: true; the input reads as it did. -/
def fnExactHowManySpec : ChangeSpec := { name := "fnExactHowMany", fn := fun _ => fun
  | [d1, d2] => { results := [.lit (.bool true)], args := [d1, d2] }
  | _ => none }
def fnExactHowManyRow : OpenClaim := { program := "ytmbbkaoccmokeaa", sum := "f168f734009a2c136a63755cce287a051ef775a989c205df92f48b139987b229", func := "loop.example/g01366/laws.FnExactHowMany", spec := "fnExactHowMany", unfollowed := true, recurses := true, apart := false }
def FnExactHowManySaid : Prop := fnExactHowManyRow.holds Try.pinned (OpenSpec.ofChange fnExactHowManySpec)

/-- ITS FALSE NEIGHBOUR: 'it returns false'. Refute it at one input. -/
def fnExactHowManyWrong : ChangeSpec := { name := "fnExactHowMany", fn := fun _ => fun
  | [d1, d2] => { results := [.lit (.bool false)], args := [d1, d2] }
  | _ => none }
def FnExactHowManyWrongFalsely : Prop := fnExactHowManyRow.holds Try.pinned (OpenSpec.ofChange fnExactHowManyWrong)

/-- 'laws.FnExactFitsInside': WHATEVER THE INPUT: true; the input reads as it did. -/
def fnExactFitsInsideSpec : ChangeSpec := { name := "fnExactFitsInside", fn := fun _ => fun
  | [d1, d2] => { results := [.lit (.bool true)], args := [d1, d2] }
  | _ => none }
def fnExactFitsInsideRow : OpenClaim := { program := "ytmbbkaoccmokeaa", sum := "f168f734009a2c136a63755cce287a051ef775a989c205df92f48b139987b229", func := "loop.example/g01366/laws.FnExactFitsInside", spec := "fnExactFitsInside", unfollowed := true, recurses := true, apart := false }
def FnExactFitsInsideSaid : Prop := fnExactFitsInsideRow.holds Try.pinned (OpenSpec.ofChange fnExactFitsInsideSpec)

/-- ITS FALSE NEIGHBOUR: 'it returns false'. Refute it at one input. -/
def fnExactFitsInsideWrong : ChangeSpec := { name := "fnExactFitsInside", fn := fun _ => fun
  | [d1, d2] => { results := [.lit (.bool false)], args := [d1, d2] }
  | _ => none }
def FnExactFitsInsideWrongFalsely : Prop := fnExactFitsInsideRow.holds Try.pinned (OpenSpec.ofChange fnExactFitsInsideWrong)

/- THE SECOND FORM. 'bulk': how many values and letters a reading holds, each counted each time it is reached (what is shared counts as often as it is met; a slice's spare places count too). A statement '..UptoSaid' is the law's where the arguments, and the package variables that the reading takes, are together of bulk at most 1048576: NARROWER than '..Said'. Prove '..Said' where nothing that the law and all that it calls make is longer than what came in: it says more and counts as full. Else prove '..UptoSaid'. A law counts once. -/
mutual
def uptoBulk {H : Type} : DataW H → Nat
  | .lit (.string bytes) => bytes.length + 1
  | .lit _ => 1
  | .nil => 1
  | .ptr d => uptoBulk d + 1
  | .slice elems spare => uptoBulkAll elems + uptoBulkAll spare + 1
  | .agg parts => uptoBulkAll parts + 1
  | .iface _ d => uptoBulk d + 1
  | .map entries => uptoBulkEntries entries + 1
  | .held _ => 1
def uptoBulkAll {H : Type} : List (DataW H) → Nat
  | [] => 0
  | d :: r => uptoBulk d + uptoBulkAll r
def uptoBulkEntries {H : Type} : List (Lit × DataW H) → Nat
  | [] => 0
  | x :: r => uptoBulkEntry x + uptoBulkEntries r
def uptoBulkEntry {H : Type} : Lit × DataW H → Nat
  | (.string bytes, d) => bytes.length + uptoBulk d + 1
  | (_, d) => uptoBulk d + 1
 end
def uptoSmall : (H : Type) → List (DataW H) → Bool := fun _ ds => decide (uptoBulkAll ds ≤ 1048576)
def OpenSpec.upto (s : _root_.Go.ChangeSpec) : _root_.Go.OpenSpec := { _root_.Go.OpenSpec.ofChange s with cond := some uptoSmall }

/-- 'laws.FnExactValidBox', WHERE WHAT IT READS IS OF BULK AT MOST 1048576: true; the input reads as it did. -/
def fnExactValidBoxUptoRow : OpenClaim := { program := "ytmbbkaoccmokeaa", sum := "f168f734009a2c136a63755cce287a051ef775a989c205df92f48b139987b229", func := "loop.example/g01366/laws.FnExactValidBox", spec := "fnExactValidBox", unfollowed := true, recurses := true, apart := false, narrowed := true }
def FnExactValidBoxUptoSaid : Prop := fnExactValidBoxUptoRow.holds Try.pinned (OpenSpec.upto fnExactValidBoxSpec)

/-- 'laws.FnExactSameBox', WHERE WHAT IT READS IS OF BULK AT MOST 1048576: true; the input reads as it did. -/
def fnExactSameBoxUptoRow : OpenClaim := { program := "ytmbbkaoccmokeaa", sum := "f168f734009a2c136a63755cce287a051ef775a989c205df92f48b139987b229", func := "loop.example/g01366/laws.FnExactSameBox", spec := "fnExactSameBox", apart := false, narrowed := true }
def FnExactSameBoxUptoSaid : Prop := fnExactSameBoxUptoRow.holds Try.pinned (OpenSpec.upto fnExactSameBoxSpec)

/-- 'laws.FnExactSortBox', WHERE WHAT IT READS IS OF BULK AT MOST 1048576: true; the input reads as it did. -/
def fnExactSortBoxUptoRow : OpenClaim := { program := "ytmbbkaoccmokeaa", sum := "f168f734009a2c136a63755cce287a051ef775a989c205df92f48b139987b229", func := "loop.example/g01366/laws.FnExactSortBox", spec := "fnExactSortBox", unfollowed := true, recurses := true, apart := false, narrowed := true }
def FnExactSortBoxUptoSaid : Prop := fnExactSortBoxUptoRow.holds Try.pinned (OpenSpec.upto fnExactSortBoxSpec)

/-- 'laws.FnExactTurnsOf', WHERE WHAT IT READS IS OF BULK AT MOST 1048576: true; the input reads as it did. -/
def fnExactTurnsOfUptoRow : OpenClaim := { program := "ytmbbkaoccmokeaa", sum := "f168f734009a2c136a63755cce287a051ef775a989c205df92f48b139987b229", func := "loop.example/g01366/laws.FnExactTurnsOf", spec := "fnExactTurnsOf", unfollowed := true, recurses := true, apart := false, narrowed := true }
def FnExactTurnsOfUptoSaid : Prop := fnExactTurnsOfUptoRow.holds Try.pinned (OpenSpec.upto fnExactTurnsOfSpec)

/-- 'laws.FnExactVolumeOf', WHERE WHAT IT READS IS OF BULK AT MOST 1048576: true; the input reads as it did. -/
def fnExactVolumeOfUptoRow : OpenClaim := { program := "ytmbbkaoccmokeaa", sum := "f168f734009a2c136a63755cce287a051ef775a989c205df92f48b139987b229", func := "loop.example/g01366/laws.FnExactVolumeOf", spec := "fnExactVolumeOf", unfollowed := true, recurses := true, apart := false, narrowed := true }
def FnExactVolumeOfUptoSaid : Prop := fnExactVolumeOfUptoRow.holds Try.pinned (OpenSpec.upto fnExactVolumeOfSpec)

/-- 'laws.FnExactStringFor', WHERE WHAT IT READS IS OF BULK AT MOST 1048576: true; the input reads as it did. -/
def fnExactStringForUptoRow : OpenClaim := { program := "ytmbbkaoccmokeaa", sum := "f168f734009a2c136a63755cce287a051ef775a989c205df92f48b139987b229", func := "loop.example/g01366/laws.FnExactStringFor", spec := "fnExactStringFor", unfollowed := true, recurses := true, apart := false, narrowed := true }
def FnExactStringForUptoSaid : Prop := fnExactStringForUptoRow.holds Try.pinned (OpenSpec.upto fnExactStringForSpec)

/-- 'laws.FnExactPaperFor', WHERE WHAT IT READS IS OF BULK AT MOST 1048576: true; the input reads as it did. -/
def fnExactPaperForUptoRow : OpenClaim := { program := "ytmbbkaoccmokeaa", sum := "f168f734009a2c136a63755cce287a051ef775a989c205df92f48b139987b229", func := "loop.example/g01366/laws.FnExactPaperFor", spec := "fnExactPaperFor", unfollowed := true, recurses := true, apart := false, narrowed := true }
def FnExactPaperForUptoSaid : Prop := fnExactPaperForUptoRow.holds Try.pinned (OpenSpec.upto fnExactPaperForSpec)

/-- 'laws.FnExactFitsPaper', WHERE WHAT IT READS IS OF BULK AT MOST 1048576: true; the input reads as it did. -/
def fnExactFitsPaperUptoRow : OpenClaim := { program := "ytmbbkaoccmokeaa", sum := "f168f734009a2c136a63755cce287a051ef775a989c205df92f48b139987b229", func := "loop.example/g01366/laws.FnExactFitsPaper", spec := "fnExactFitsPaper", unfollowed := true, recurses := true, apart := false, narrowed := true }
def FnExactFitsPaperUptoSaid : Prop := fnExactFitsPaperUptoRow.holds Try.pinned (OpenSpec.upto fnExactFitsPaperSpec)

/-- 'laws.FnExactLeastCut', WHERE WHAT IT READS IS OF BULK AT MOST 1048576: true; the input reads as it did. -/
def fnExactLeastCutUptoRow : OpenClaim := { program := "ytmbbkaoccmokeaa", sum := "f168f734009a2c136a63755cce287a051ef775a989c205df92f48b139987b229", func := "loop.example/g01366/laws.FnExactLeastCut", spec := "fnExactLeastCut", unfollowed := true, recurses := true, apart := false, narrowed := true }
def FnExactLeastCutUptoSaid : Prop := fnExactLeastCutUptoRow.holds Try.pinned (OpenSpec.upto fnExactLeastCutSpec)

/-- 'laws.FnExactCutsFor', WHERE WHAT IT READS IS OF BULK AT MOST 1048576: true; the input reads as it did. -/
def fnExactCutsForUptoRow : OpenClaim := { program := "ytmbbkaoccmokeaa", sum := "f168f734009a2c136a63755cce287a051ef775a989c205df92f48b139987b229", func := "loop.example/g01366/laws.FnExactCutsFor", spec := "fnExactCutsFor", unfollowed := true, recurses := true, apart := false, narrowed := true }
def FnExactCutsForUptoSaid : Prop := fnExactCutsForUptoRow.holds Try.pinned (OpenSpec.upto fnExactCutsForSpec)

/-- 'laws.FnExactHowMany', WHERE WHAT IT READS IS OF BULK AT MOST 1048576: true; the input reads as it did. -/
def fnExactHowManyUptoRow : OpenClaim := { program := "ytmbbkaoccmokeaa", sum := "f168f734009a2c136a63755cce287a051ef775a989c205df92f48b139987b229", func := "loop.example/g01366/laws.FnExactHowMany", spec := "fnExactHowMany", unfollowed := true, recurses := true, apart := false, narrowed := true }
def FnExactHowManyUptoSaid : Prop := fnExactHowManyUptoRow.holds Try.pinned (OpenSpec.upto fnExactHowManySpec)

/-- 'laws.FnExactFitsInside', WHERE WHAT IT READS IS OF BULK AT MOST 1048576: true; the input reads as it did. -/
def fnExactFitsInsideUptoRow : OpenClaim := { program := "ytmbbkaoccmokeaa", sum := "f168f734009a2c136a63755cce287a051ef775a989c205df92f48b139987b229", func := "loop.example/g01366/laws.FnExactFitsInside", spec := "fnExactFitsInside", unfollowed := true, recurses := true, apart := false, narrowed := true }
def FnExactFitsInsideUptoSaid : Prop := fnExactFitsInsideUptoRow.holds Try.pinned (OpenSpec.upto fnExactFitsInsideSpec)

end Rows
end Go.Proofs.Ytmbbkaoccmokeaa
