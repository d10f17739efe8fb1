/-
  No cell of these rows narrows 'for every input' (looked for: loops, veiled, ifaces, maps, wideKeys, modest, calm, conditions, laid).
  DERIVED. THE GIVEN ROWS OF THIS SEAT. 9 by the template 'for every input the law returns true; each argument reads behind the call as it read before'; 0 by the template 'total and deterministic' (their statements: YtpcchfklmcalaaaTotals.lean).
  GIVEN WITH THE SEED: the statements are not yours to turn. If you find one false, say at which input.
  Laid BY PROGRAM, IN A SANDBOX (cutbox-rows.mjs): the forced cells as the released guide's own fill.sh prints them over the translation 100b4c0edc72f477… (all of the seat's roots in one cut). By AI agents, Wed Nov 11 2026. No macro, syntax, notation, axiom, sorry.
-/
import Derived.Test.YtpcchfklmcalaaaChecked
import GoSem.Claim
import GoSem.ClaimJoined
import GoSem.ClaimMapViews
import Derived.JoinedTies
import Derived.KernelRfl
namespace Go.Proofs.Ytpcchfklmcalaaa
/- THE CELL 'sum', in the pinned program and in every row, IS THE sha256 OF THE DUMP (.gsa) THAT YtpcchfklmcalaaaProg.lean LOADS. Nothing in Lean hashes anything: it is a label: what it is worth is what the hold of that sum in a sandbox is worth. -/
noncomputable def Try.pinned : Pinned := { name := "ytpcchfklmcalaaa", sum := "100b4c0edc72f4773c5113a0ae20a6890370e98a3c33ba949aeabe0096a56c7f", checked := Try.checked }
namespace Rows
def none {H : Type} : Left H := { results := [], args := [] }

/-- 'laws.FnExactValidTable': WHATEVER THE INPUT: true; the input reads as it did. -/
def fnExactValidTableSpec : ChangeSpec := { name := "fnExactValidTable", fn := fun _ => fun
  | [d] => { results := [.lit (.bool true)], args := [d] }
  | _ => none }
def fnExactValidTableRow : OpenClaim := { program := "ytpcchfklmcalaaa", sum := "100b4c0edc72f4773c5113a0ae20a6890370e98a3c33ba949aeabe0096a56c7f", func := "loop.example/g01366/laws.FnExactValidTable", spec := "fnExactValidTable", unfollowed := true, recurses := true, apart := false }
def FnExactValidTableSaid : Prop := fnExactValidTableRow.holds Try.pinned (OpenSpec.ofChange fnExactValidTableSpec)

/-- ITS FALSE NEIGHBOUR: 'it returns false'. Refute it at one input. -/
def fnExactValidTableWrong : ChangeSpec := { name := "fnExactValidTable", fn := fun _ => fun
  | [d] => { results := [.lit (.bool false)], args := [d] }
  | _ => none }
def FnExactValidTableWrongFalsely : Prop := fnExactValidTableRow.holds Try.pinned (OpenSpec.ofChange fnExactValidTableWrong)

/-- 'laws.FnExactSameTable': WHATEVER THE INPUT: true; the input reads as it did. -/
def fnExactSameTableSpec : ChangeSpec := { name := "fnExactSameTable", fn := fun _ => fun
  | [d1, d2] => { results := [.lit (.bool true)], args := [d1, d2] }
  | _ => none }
def fnExactSameTableRow : OpenClaim := { program := "ytpcchfklmcalaaa", sum := "100b4c0edc72f4773c5113a0ae20a6890370e98a3c33ba949aeabe0096a56c7f", func := "loop.example/g01366/laws.FnExactSameTable", spec := "fnExactSameTable", unfollowed := true, recurses := true, apart := false }
def FnExactSameTableSaid : Prop := fnExactSameTableRow.holds Try.pinned (OpenSpec.ofChange fnExactSameTableSpec)

/-- ITS FALSE NEIGHBOUR: 'it returns false'. Refute it at one input. -/
def fnExactSameTableWrong : ChangeSpec := { name := "fnExactSameTable", fn := fun _ => fun
  | [d1, d2] => { results := [.lit (.bool false)], args := [d1, d2] }
  | _ => none }
def FnExactSameTableWrongFalsely : Prop := fnExactSameTableRow.holds Try.pinned (OpenSpec.ofChange fnExactSameTableWrong)

/-- 'laws.FnExactStepFor': WHATEVER THE INPUT: true; the input reads as it did. -/
def fnExactStepForSpec : ChangeSpec := { name := "fnExactStepFor", fn := fun _ => fun
  | [d1, d2] => { results := [.lit (.bool true)], args := [d1, d2] }
  | _ => none }
def fnExactStepForRow : OpenClaim := { program := "ytpcchfklmcalaaa", sum := "100b4c0edc72f4773c5113a0ae20a6890370e98a3c33ba949aeabe0096a56c7f", func := "loop.example/g01366/laws.FnExactStepFor", spec := "fnExactStepFor", unfollowed := true, recurses := true, apart := false }
def FnExactStepForSaid : Prop := fnExactStepForRow.holds Try.pinned (OpenSpec.ofChange fnExactStepForSpec)

/-- ITS FALSE NEIGHBOUR: 'it returns false'. Refute it at one input. -/
def fnExactStepForWrong : ChangeSpec := { name := "fnExactStepFor", fn := fun _ => fun
  | [d1, d2] => { results := [.lit (.bool false)], args := [d1, d2] }
  | _ => none }
def FnExactStepForWrongFalsely : Prop := fnExactStepForRow.holds Try.pinned (OpenSpec.ofChange fnExactStepForWrong)

/-- 'laws.FnExactPriceOf': WHATEVER THE INPUT: true; the input reads as it did. -/
def fnExactPriceOfSpec : ChangeSpec := { name := "fnExactPriceOf", fn := fun _ => fun
  | [d1, d2, d3] => { results := [.lit (.bool true)], args := [d1, d2, d3] }
  | _ => none }
def fnExactPriceOfRow : OpenClaim := { program := "ytpcchfklmcalaaa", sum := "100b4c0edc72f4773c5113a0ae20a6890370e98a3c33ba949aeabe0096a56c7f", func := "loop.example/g01366/laws.FnExactPriceOf", spec := "fnExactPriceOf", unfollowed := true, recurses := true, apart := false }
def FnExactPriceOfSaid : Prop := fnExactPriceOfRow.holds Try.pinned (OpenSpec.ofChange fnExactPriceOfSpec)

/-- ITS FALSE NEIGHBOUR: 'it returns false'. Refute it at one input. -/
def fnExactPriceOfWrong : ChangeSpec := { name := "fnExactPriceOf", fn := fun _ => fun
  | [d1, d2, d3] => { results := [.lit (.bool false)], args := [d1, d2, d3] }
  | _ => none }
def FnExactPriceOfWrongFalsely : Prop := fnExactPriceOfRow.holds Try.pinned (OpenSpec.ofChange fnExactPriceOfWrong)

/-- 'laws.FnExactHeaviestFor': WHATEVER THE INPUT: true; the input reads as it did. -/
def fnExactHeaviestForSpec : ChangeSpec := { name := "fnExactHeaviestFor", fn := fun _ => fun
  | [d1, d2, d3] => { results := [.lit (.bool true)], args := [d1, d2, d3] }
  | _ => none }
def fnExactHeaviestForRow : OpenClaim := { program := "ytpcchfklmcalaaa", sum := "100b4c0edc72f4773c5113a0ae20a6890370e98a3c33ba949aeabe0096a56c7f", func := "loop.example/g01366/laws.FnExactHeaviestFor", spec := "fnExactHeaviestFor", unfollowed := true, recurses := true, apart := false }
def FnExactHeaviestForSaid : Prop := fnExactHeaviestForRow.holds Try.pinned (OpenSpec.ofChange fnExactHeaviestForSpec)

/-- ITS FALSE NEIGHBOUR: 'it returns false'. Refute it at one input. -/
def fnExactHeaviestForWrong : ChangeSpec := { name := "fnExactHeaviestFor", fn := fun _ => fun
  | [d1, d2, d3] => { results := [.lit (.bool false)], args := [d1, d2, d3] }
  | _ => none }
def FnExactHeaviestForWrongFalsely : Prop := fnExactHeaviestForRow.holds Try.pinned (OpenSpec.ofChange fnExactHeaviestForWrong)

/-- 'laws.FnExactIsRising': WHATEVER THE INPUT: true; the input reads as it did. -/
def fnExactIsRisingSpec : ChangeSpec := { name := "fnExactIsRising", fn := fun _ => fun
  | [d] => { results := [.lit (.bool true)], args := [d] }
  | _ => none }
def fnExactIsRisingRow : OpenClaim := { program := "ytpcchfklmcalaaa", sum := "100b4c0edc72f4773c5113a0ae20a6890370e98a3c33ba949aeabe0096a56c7f", func := "loop.example/g01366/laws.FnExactIsRising", spec := "fnExactIsRising", unfollowed := true, recurses := true, apart := false }
def FnExactIsRisingSaid : Prop := fnExactIsRisingRow.holds Try.pinned (OpenSpec.ofChange fnExactIsRisingSpec)

/-- ITS FALSE NEIGHBOUR: 'it returns false'. Refute it at one input. -/
def fnExactIsRisingWrong : ChangeSpec := { name := "fnExactIsRising", fn := fun _ => fun
  | [d] => { results := [.lit (.bool false)], args := [d] }
  | _ => none }
def FnExactIsRisingWrongFalsely : Prop := fnExactIsRisingRow.holds Try.pinned (OpenSpec.ofChange fnExactIsRisingWrong)

/-- 'laws.FnExactFirstDearer': WHATEVER THE INPUT: true; the input reads as it did. -/
def fnExactFirstDearerSpec : ChangeSpec := { name := "fnExactFirstDearer", fn := fun _ => fun
  | [d1, d2] => { results := [.lit (.bool true)], args := [d1, d2] }
  | _ => none }
def fnExactFirstDearerRow : OpenClaim := { program := "ytpcchfklmcalaaa", sum := "100b4c0edc72f4773c5113a0ae20a6890370e98a3c33ba949aeabe0096a56c7f", func := "loop.example/g01366/laws.FnExactFirstDearer", spec := "fnExactFirstDearer", unfollowed := true, recurses := true, apart := false }
def FnExactFirstDearerSaid : Prop := fnExactFirstDearerRow.holds Try.pinned (OpenSpec.ofChange fnExactFirstDearerSpec)

/-- ITS FALSE NEIGHBOUR: 'it returns false'. Refute it at one input. -/
def fnExactFirstDearerWrong : ChangeSpec := { name := "fnExactFirstDearer", fn := fun _ => fun
  | [d1, d2] => { results := [.lit (.bool false)], args := [d1, d2] }
  | _ => none }
def FnExactFirstDearerWrongFalsely : Prop := fnExactFirstDearerRow.holds Try.pinned (OpenSpec.ofChange fnExactFirstDearerWrong)

/-- 'laws.FnExactWithRise': WHATEVER THE INPUT: true; the input reads as it did. -/
def fnExactWithRiseSpec : ChangeSpec := { name := "fnExactWithRise", fn := fun _ => fun
  | [d1, d2] => { results := [.lit (.bool true)], args := [d1, d2] }
  | _ => none }
def fnExactWithRiseRow : OpenClaim := { program := "ytpcchfklmcalaaa", sum := "100b4c0edc72f4773c5113a0ae20a6890370e98a3c33ba949aeabe0096a56c7f", func := "loop.example/g01366/laws.FnExactWithRise", spec := "fnExactWithRise", unfollowed := true, recurses := true, apart := false }
def FnExactWithRiseSaid : Prop := fnExactWithRiseRow.holds Try.pinned (OpenSpec.ofChange fnExactWithRiseSpec)

/-- ITS FALSE NEIGHBOUR: 'it returns false'. Refute it at one input. -/
def fnExactWithRiseWrong : ChangeSpec := { name := "fnExactWithRise", fn := fun _ => fun
  | [d1, d2] => { results := [.lit (.bool false)], args := [d1, d2] }
  | _ => none }
def FnExactWithRiseWrongFalsely : Prop := fnExactWithRiseRow.holds Try.pinned (OpenSpec.ofChange fnExactWithRiseWrong)

/-- 'laws.FnExactFreeOf': WHATEVER THE INPUT: true; the input reads as it did. -/
def fnExactFreeOfSpec : ChangeSpec := { name := "fnExactFreeOf", fn := fun _ => fun
  | [d1, d2] => { results := [.lit (.bool true)], args := [d1, d2] }
  | _ => none }
def fnExactFreeOfRow : OpenClaim := { program := "ytpcchfklmcalaaa", sum := "100b4c0edc72f4773c5113a0ae20a6890370e98a3c33ba949aeabe0096a56c7f", func := "loop.example/g01366/laws.FnExactFreeOf", spec := "fnExactFreeOf", unfollowed := true, recurses := true, apart := false }
def FnExactFreeOfSaid : Prop := fnExactFreeOfRow.holds Try.pinned (OpenSpec.ofChange fnExactFreeOfSpec)

/-- ITS FALSE NEIGHBOUR: 'it returns false'. Refute it at one input. -/
def fnExactFreeOfWrong : ChangeSpec := { name := "fnExactFreeOf", fn := fun _ => fun
  | [d1, d2] => { results := [.lit (.bool false)], args := [d1, d2] }
  | _ => none }
def FnExactFreeOfWrongFalsely : Prop := fnExactFreeOfRow.holds Try.pinned (OpenSpec.ofChange fnExactFreeOfWrong)

/- THE SECOND FORM. 'bulk': how many values and letters a reading holds, each counted each time it is reached (what is shared counts as often as it is met; a slice's spare places count too). A statement '..UptoSaid' is the law's where the arguments, and the package variables that the reading takes, are together of bulk at most 1048576: NARROWER than '..Said'. Prove '..Said' where nothing that the law and all that it calls make is longer than what came in: it says more and counts as full. Else prove '..UptoSaid'. A law counts once. -/
mutual
def uptoBulk {H : Type} : DataW H → Nat
  | .lit (.string bytes) => bytes.length + 1
  | .lit _ => 1
  | .nil => 1
  | .ptr d => uptoBulk d + 1
  | .slice elems spare => uptoBulkAll elems + uptoBulkAll spare + 1
  | .agg parts => uptoBulkAll parts + 1
  | .iface _ d => uptoBulk d + 1
  | .map entries => uptoBulkEntries entries + 1
  | .held _ => 1
def uptoBulkAll {H : Type} : List (DataW H) → Nat
  | [] => 0
  | d :: r => uptoBulk d + uptoBulkAll r
def uptoBulkEntries {H : Type} : List (Lit × DataW H) → Nat
  | [] => 0
  | x :: r => uptoBulkEntry x + uptoBulkEntries r
def uptoBulkEntry {H : Type} : Lit × DataW H → Nat
  | (.string bytes, d) => bytes.length + uptoBulk d + 1
  | (_, d) => uptoBulk d + 1
 end
def uptoSmall : (H : Type) → List (DataW H) → Bool := fun _ ds => decide (uptoBulkAll ds ≤ 1048576)
def OpenSpec.upto (s : _root_.Go.ChangeSpec) : _root_.Go.OpenSpec := { _root_.Go.OpenSpec.ofChange s with cond := some uptoSmall }

/-- 'laws.FnExactValidTable', WHERE WHAT IT READS IS OF BULK AT MOST 1048576: true; the input reads as it did. -/
def fnExactValidTableUptoRow : OpenClaim := { program := "ytpcchfklmcalaaa", sum := "100b4c0edc72f4773c5113a0ae20a6890370e98a3c33ba949aeabe0096a56c7f", func := "loop.example/g01366/laws.FnExactValidTable", spec := "fnExactValidTable", unfollowed := true, recurses := true, apart := false, narrowed := true }
def FnExactValidTableUptoSaid : Prop := fnExactValidTableUptoRow.holds Try.pinned (OpenSpec.upto fnExactValidTableSpec)

/-- 'laws.FnExactSameTable', WHERE WHAT IT READS IS OF BULK AT MOST 1048576: true; the input reads as it did. -/
def fnExactSameTableUptoRow : OpenClaim := { program := "ytpcchfklmcalaaa", sum := "100b4c0edc72f4773c5113a0ae20a6890370e98a3c33ba949aeabe0096a56c7f", func := "loop.example/g01366/laws.FnExactSameTable", spec := "fnExactSameTable", unfollowed := true, recurses := true, apart := false, narrowed := true }
def FnExactSameTableUptoSaid : Prop := fnExactSameTableUptoRow.holds Try.pinned (OpenSpec.upto fnExactSameTableSpec)

/-- 'laws.FnExactStepFor', WHERE WHAT IT READS IS OF BULK AT MOST 1048576: true; the input reads as it did. -/
def fnExactStepForUptoRow : OpenClaim := { program := "ytpcchfklmcalaaa", sum := "100b4c0edc72f4773c5113a0ae20a6890370e98a3c33ba949aeabe0096a56c7f", func := "loop.example/g01366/laws.FnExactStepFor", spec := "fnExactStepFor", unfollowed := true, recurses := true, apart := false, narrowed := true }
def FnExactStepForUptoSaid : Prop := fnExactStepForUptoRow.holds Try.pinned (OpenSpec.upto fnExactStepForSpec)

/-- 'laws.FnExactPriceOf', WHERE WHAT IT READS IS OF BULK AT MOST 1048576: true; the input reads as it did. -/
def fnExactPriceOfUptoRow : OpenClaim := { program := "ytpcchfklmcalaaa", sum := "100b4c0edc72f4773c5113a0ae20a6890370e98a3c33ba949aeabe0096a56c7f", func := "loop.example/g01366/laws.FnExactPriceOf", spec := "fnExactPriceOf", unfollowed := true, recurses := true, apart := false, narrowed := true }
def FnExactPriceOfUptoSaid : Prop := fnExactPriceOfUptoRow.holds Try.pinned (OpenSpec.upto fnExactPriceOfSpec)

/-- 'laws.FnExactHeaviestFor', WHERE WHAT IT READS IS OF BULK AT MOST 1048576: true; the input reads as it did. -/
def fnExactHeaviestForUptoRow : OpenClaim := { program := "ytpcchfklmcalaaa", sum := "100b4c0edc72f4773c5113a0ae20a6890370e98a3c33ba949aeabe0096a56c7f", func := "loop.example/g01366/laws.FnExactHeaviestFor", spec := "fnExactHeaviestFor", unfollowed := true, recurses := true, apart := false, narrowed := true }
def FnExactHeaviestForUptoSaid : Prop := fnExactHeaviestForUptoRow.holds Try.pinned (OpenSpec.upto fnExactHeaviestForSpec)

/-- 'laws.FnExactIsRising', WHERE WHAT IT READS IS OF BULK AT MOST 1048576: true; the input reads as it did. -/
def fnExactIsRisingUptoRow : OpenClaim := { program := "ytpcchfklmcalaaa", sum := "100b4c0edc72f4773c5113a0ae20a6890370e98a3c33ba949aeabe0096a56c7f", func := "loop.example/g01366/laws.FnExactIsRising", spec := "fnExactIsRising", unfollowed := true, recurses := true, apart := false, narrowed := true }
def FnExactIsRisingUptoSaid : Prop := fnExactIsRisingUptoRow.holds Try.pinned (OpenSpec.upto fnExactIsRisingSpec)

/-- 'laws.FnExactFirstDearer', WHERE WHAT IT READS IS OF BULK AT MOST 1048576: true; the input reads as it did. -/
def fnExactFirstDearerUptoRow : OpenClaim := { program := "ytpcchfklmcalaaa", sum := "100b4c0edc72f4773c5113a0ae20a6890370e98a3c33ba949aeabe0096a56c7f", func := "loop.example/g01366/laws.FnExactFirstDearer", spec := "fnExactFirstDearer", unfollowed := true, recurses := true, apart := false, narrowed := true }
def FnExactFirstDearerUptoSaid : Prop := fnExactFirstDearerUptoRow.holds Try.pinned (OpenSpec.upto fnExactFirstDearerSpec)

/-- 'laws.FnExactWithRise', WHERE WHAT IT READS IS OF BULK AT MOST 1048576: true; the input reads as it did. -/
def fnExactWithRiseUptoRow : OpenClaim := { program := "ytpcchfklmcalaaa", sum := "100b4c0edc72f4773c5113a0ae20a6890370e98a3c33ba949aeabe0096a56c7f", func := "loop.example/g01366/laws.FnExactWithRise", spec := "fnExactWithRise", unfollowed := true, recurses := true, apart := false, narrowed := true }
def FnExactWithRiseUptoSaid : Prop := fnExactWithRiseUptoRow.holds Try.pinned (OpenSpec.upto fnExactWithRiseSpec)

/-- 'laws.FnExactFreeOf', WHERE WHAT IT READS IS OF BULK AT MOST 1048576: true; the input reads as it did. -/
def fnExactFreeOfUptoRow : OpenClaim := { program := "ytpcchfklmcalaaa", sum := "100b4c0edc72f4773c5113a0ae20a6890370e98a3c33ba949aeabe0096a56c7f", func := "loop.example/g01366/laws.FnExactFreeOf", spec := "fnExactFreeOf", unfollowed := true, recurses := true, apart := false, narrowed := true }
def FnExactFreeOfUptoSaid : Prop := fnExactFreeOfUptoRow.holds Try.pinned (OpenSpec.upto fnExactFreeOfSpec)

end Rows
end Go.Proofs.Ytpcchfklmcalaaa
