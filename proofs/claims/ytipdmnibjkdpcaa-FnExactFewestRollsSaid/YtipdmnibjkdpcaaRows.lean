/-
  No cell of these rows narrows 'for every input' (looked for: loops, veiled, ifaces, maps, wideKeys, modest, calm, conditions, laid).
  DERIVED. THE GIVEN ROWS OF THIS SEAT. 6 by the template 'for every input the law returns true; each argument reads behind the call as it read before'; 0 by the template 'total and deterministic' (their statements: YtipdmnibjkdpcaaTotals.lean).
  GIVEN WITH THE SEED: the statements are not yours to turn. If you find one false, say at which input.
  Laid BY PROGRAM, IN A SANDBOX (cutbox-rows.mjs): the forced cells as the released guide's own fill.sh prints them over the translation 78fa55b0c2153120… (all of the seat's roots in one cut). By AI agents, Wed Nov 11 2026. No macro, syntax, notation, axiom, sorry.
-/
import Derived.Test.YtipdmnibjkdpcaaChecked
import GoSem.Claim
import GoSem.ClaimJoined
import GoSem.ClaimMapViews
import Derived.JoinedTies
import Derived.KernelRfl
namespace Go.Proofs.Ytipdmnibjkdpcaa
/- THE CELL 'sum', in the pinned program and in every row, IS THE sha256 OF THE DUMP (.gsa) THAT YtipdmnibjkdpcaaProg.lean LOADS. Nothing in Lean hashes anything: it is a label: what it is worth is what the hold of that sum in a sandbox is worth. -/
noncomputable def Try.pinned : Pinned := { name := "ytipdmnibjkdpcaa", sum := "78fa55b0c215312065b014bbeee4bcd3396a6d0e0ff42399ddbb9b355641b2a3", checked := Try.checked }
namespace Rows
def none {H : Type} : Left H := { results := [], args := [] }

/-- 'laws.FnExactFirstRolls': WHATEVER THE INPUT: true; the input reads as it did. -/
def fnExactFirstRollsSpec : ChangeSpec := { name := "fnExactFirstRolls", fn := fun _ => fun
  | [d1, d2] => { results := [.lit (.bool true)], args := [d1, d2] }
  | _ => none }
def fnExactFirstRollsRow : OpenClaim := { program := "ytipdmnibjkdpcaa", sum := "78fa55b0c215312065b014bbeee4bcd3396a6d0e0ff42399ddbb9b355641b2a3", func := "loop.example/g01366/laws.FnExactFirstRolls", spec := "fnExactFirstRolls", unfollowed := true, recurses := true, apart := false }
def FnExactFirstRollsSaid : Prop := fnExactFirstRollsRow.holds Try.pinned (OpenSpec.ofChange fnExactFirstRollsSpec)

/-- ITS FALSE NEIGHBOUR: 'it returns false'. Refute it at one input. -/
def fnExactFirstRollsWrong : ChangeSpec := { name := "fnExactFirstRolls", fn := fun _ => fun
  | [d1, d2] => { results := [.lit (.bool false)], args := [d1, d2] }
  | _ => none }
def FnExactFirstRollsWrongFalsely : Prop := fnExactFirstRollsRow.holds Try.pinned (OpenSpec.ofChange fnExactFirstRollsWrong)

/-- 'laws.FnExactFewestRolls': WHATEVER THE INPUT: true; the input reads as it did. -/
def fnExactFewestRollsSpec : ChangeSpec := { name := "fnExactFewestRolls", fn := fun _ => fun
  | [d1, d2, d3] => { results := [.lit (.bool true)], args := [d1, d2, d3] }
  | _ => none }
def fnExactFewestRollsRow : OpenClaim := { program := "ytipdmnibjkdpcaa", sum := "78fa55b0c215312065b014bbeee4bcd3396a6d0e0ff42399ddbb9b355641b2a3", func := "loop.example/g01366/laws.FnExactFewestRolls", spec := "fnExactFewestRolls", unfollowed := true, recurses := true, apart := false }
def FnExactFewestRollsSaid : Prop := fnExactFewestRollsRow.holds Try.pinned (OpenSpec.ofChange fnExactFewestRollsSpec)

/-- ITS FALSE NEIGHBOUR: 'it returns false'. Refute it at one input. -/
def fnExactFewestRollsWrong : ChangeSpec := { name := "fnExactFewestRolls", fn := fun _ => fun
  | [d1, d2, d3] => { results := [.lit (.bool false)], args := [d1, d2, d3] }
  | _ => none }
def FnExactFewestRollsWrongFalsely : Prop := fnExactFewestRollsRow.holds Try.pinned (OpenSpec.ofChange fnExactFewestRollsWrong)

/-- 'laws.FnExactLongestNest': WHATEVER THE INPUT: true; the input reads as it did. -/
def fnExactLongestNestSpec : ChangeSpec := { name := "fnExactLongestNest", fn := fun _ => fun
  | [d] => { results := [.lit (.bool true)], args := [d] }
  | _ => none }
def fnExactLongestNestRow : OpenClaim := { program := "ytipdmnibjkdpcaa", sum := "78fa55b0c215312065b014bbeee4bcd3396a6d0e0ff42399ddbb9b355641b2a3", func := "loop.example/g01366/laws.FnExactLongestNest", spec := "fnExactLongestNest", unfollowed := true, recurses := true, apart := false }
def FnExactLongestNestSaid : Prop := fnExactLongestNestRow.holds Try.pinned (OpenSpec.ofChange fnExactLongestNestSpec)

/-- ITS FALSE NEIGHBOUR: 'it returns false'. Refute it at one input. -/
def fnExactLongestNestWrong : ChangeSpec := { name := "fnExactLongestNest", fn := fun _ => fun
  | [d] => { results := [.lit (.bool false)], args := [d] }
  | _ => none }
def FnExactLongestNestWrongFalsely : Prop := fnExactLongestNestRow.holds Try.pinned (OpenSpec.ofChange fnExactLongestNestWrong)

/-- 'laws.FnExactLargestApart': WHATEVER THE INPUT: true; the input reads as it did. -/
def fnExactLargestApartSpec : ChangeSpec := { name := "fnExactLargestApart", fn := fun _ => fun
  | [d] => { results := [.lit (.bool true)], args := [d] }
  | _ => none }
def fnExactLargestApartRow : OpenClaim := { program := "ytipdmnibjkdpcaa", sum := "78fa55b0c215312065b014bbeee4bcd3396a6d0e0ff42399ddbb9b355641b2a3", func := "loop.example/g01366/laws.FnExactLargestApart", spec := "fnExactLargestApart", unfollowed := true, recurses := true, apart := false }
def FnExactLargestApartSaid : Prop := fnExactLargestApartRow.holds Try.pinned (OpenSpec.ofChange fnExactLargestApartSpec)

/-- ITS FALSE NEIGHBOUR: 'it returns false'. Refute it at one input. -/
def fnExactLargestApartWrong : ChangeSpec := { name := "fnExactLargestApart", fn := fun _ => fun
  | [d] => { results := [.lit (.bool false)], args := [d] }
  | _ => none }
def FnExactLargestApartWrongFalsely : Prop := fnExactLargestApartRow.holds Try.pinned (OpenSpec.ofChange fnExactLargestApartWrong)

/-- 'laws.FnExactFewestPiles': WHATEVER THE INPUT: true; the input reads as it did. -/
def fnExactFewestPilesSpec : ChangeSpec := { name := "fnExactFewestPiles", fn := fun _ => fun
  | [d] => { results := [.lit (.bool true)], args := [d] }
  | _ => none }
def fnExactFewestPilesRow : OpenClaim := { program := "ytipdmnibjkdpcaa", sum := "78fa55b0c215312065b014bbeee4bcd3396a6d0e0ff42399ddbb9b355641b2a3", func := "loop.example/g01366/laws.FnExactFewestPiles", spec := "fnExactFewestPiles", unfollowed := true, recurses := true, apart := false }
def FnExactFewestPilesSaid : Prop := fnExactFewestPilesRow.holds Try.pinned (OpenSpec.ofChange fnExactFewestPilesSpec)

/-- ITS FALSE NEIGHBOUR: 'it returns false'. Refute it at one input. -/
def fnExactFewestPilesWrong : ChangeSpec := { name := "fnExactFewestPiles", fn := fun _ => fun
  | [d] => { results := [.lit (.bool false)], args := [d] }
  | _ => none }
def FnExactFewestPilesWrongFalsely : Prop := fnExactFewestPilesRow.holds Try.pinned (OpenSpec.ofChange fnExactFewestPilesWrong)

/-- 'laws.FnExactCheckPiles': WHATEVER THE INPUT: true; the input reads as it did. -/
def fnExactCheckPilesSpec : ChangeSpec := { name := "fnExactCheckPiles", fn := fun _ => fun
  | [d1, d2] => { results := [.lit (.bool true)], args := [d1, d2] }
  | _ => none }
def fnExactCheckPilesRow : OpenClaim := { program := "ytipdmnibjkdpcaa", sum := "78fa55b0c215312065b014bbeee4bcd3396a6d0e0ff42399ddbb9b355641b2a3", func := "loop.example/g01366/laws.FnExactCheckPiles", spec := "fnExactCheckPiles", unfollowed := true, recurses := true, apart := false }
def FnExactCheckPilesSaid : Prop := fnExactCheckPilesRow.holds Try.pinned (OpenSpec.ofChange fnExactCheckPilesSpec)

/-- ITS FALSE NEIGHBOUR: 'it returns false'. Refute it at one input. -/
def fnExactCheckPilesWrong : ChangeSpec := { name := "fnExactCheckPiles", fn := fun _ => fun
  | [d1, d2] => { results := [.lit (.bool false)], args := [d1, d2] }
  | _ => none }
def FnExactCheckPilesWrongFalsely : Prop := fnExactCheckPilesRow.holds Try.pinned (OpenSpec.ofChange fnExactCheckPilesWrong)

/- THE SECOND FORM. 'bulk': how many values and letters a reading holds, each counted each time it is reached (what is shared counts as often as it is met; a slice's spare places count too). A statement '..UptoSaid' is the law's where the arguments, and the package variables that the reading takes, are together of bulk at most 1048576: NARROWER than '..Said'. Prove '..Said' where nothing that the law and all that it calls make is longer than what came in: it says more and counts as full. Else prove '..UptoSaid'. A law counts once. -/
mutual
def uptoBulk {H : Type} : DataW H → Nat
  | .lit (.string bytes) => bytes.length + 1
  | .lit _ => 1
  | .nil => 1
  | .ptr d => uptoBulk d + 1
  | .slice elems spare => uptoBulkAll elems + uptoBulkAll spare + 1
  | .agg parts => uptoBulkAll parts + 1
  | .iface _ d => uptoBulk d + 1
  | .map entries => uptoBulkEntries entries + 1
  | .held _ => 1
def uptoBulkAll {H : Type} : List (DataW H) → Nat
  | [] => 0
  | d :: r => uptoBulk d + uptoBulkAll r
def uptoBulkEntries {H : Type} : List (Lit × DataW H) → Nat
  | [] => 0
  | x :: r => uptoBulkEntry x + uptoBulkEntries r
def uptoBulkEntry {H : Type} : Lit × DataW H → Nat
  | (.string bytes, d) => bytes.length + uptoBulk d + 1
  | (_, d) => uptoBulk d + 1
 end
def uptoSmall : (H : Type) → List (DataW H) → Bool := fun _ ds => decide (uptoBulkAll ds ≤ 1048576)
def OpenSpec.upto (s : _root_.Go.ChangeSpec) : _root_.Go.OpenSpec := { _root_.Go.OpenSpec.ofChange s with cond := some uptoSmall }

/-- 'laws.FnExactFirstRolls', WHERE WHAT IT READS IS OF BULK AT MOST 1048576: true; the input reads as it did. -/
def fnExactFirstRollsUptoRow : OpenClaim := { program := "ytipdmnibjkdpcaa", sum := "78fa55b0c215312065b014bbeee4bcd3396a6d0e0ff42399ddbb9b355641b2a3", func := "loop.example/g01366/laws.FnExactFirstRolls", spec := "fnExactFirstRolls", unfollowed := true, recurses := true, apart := false, narrowed := true }
def FnExactFirstRollsUptoSaid : Prop := fnExactFirstRollsUptoRow.holds Try.pinned (OpenSpec.upto fnExactFirstRollsSpec)

/-- 'laws.FnExactFewestRolls', WHERE WHAT IT READS IS OF BULK AT MOST 1048576: true; the input reads as it did. -/
def fnExactFewestRollsUptoRow : OpenClaim := { program := "ytipdmnibjkdpcaa", sum := "78fa55b0c215312065b014bbeee4bcd3396a6d0e0ff42399ddbb9b355641b2a3", func := "loop.example/g01366/laws.FnExactFewestRolls", spec := "fnExactFewestRolls", unfollowed := true, recurses := true, apart := false, narrowed := true }
def FnExactFewestRollsUptoSaid : Prop := fnExactFewestRollsUptoRow.holds Try.pinned (OpenSpec.upto fnExactFewestRollsSpec)

/-- 'laws.FnExactLongestNest', WHERE WHAT IT READS IS OF BULK AT MOST 1048576: true; the input reads as it did. -/
def fnExactLongestNestUptoRow : OpenClaim := { program := "ytipdmnibjkdpcaa", sum := "78fa55b0c215312065b014bbeee4bcd3396a6d0e0ff42399ddbb9b355641b2a3", func := "loop.example/g01366/laws.FnExactLongestNest", spec := "fnExactLongestNest", unfollowed := true, recurses := true, apart := false, narrowed := true }
def FnExactLongestNestUptoSaid : Prop := fnExactLongestNestUptoRow.holds Try.pinned (OpenSpec.upto fnExactLongestNestSpec)

/-- 'laws.FnExactLargestApart', WHERE WHAT IT READS IS OF BULK AT MOST 1048576: true; the input reads as it did. -/
def fnExactLargestApartUptoRow : OpenClaim := { program := "ytipdmnibjkdpcaa", sum := "78fa55b0c215312065b014bbeee4bcd3396a6d0e0ff42399ddbb9b355641b2a3", func := "loop.example/g01366/laws.FnExactLargestApart", spec := "fnExactLargestApart", unfollowed := true, recurses := true, apart := false, narrowed := true }
def FnExactLargestApartUptoSaid : Prop := fnExactLargestApartUptoRow.holds Try.pinned (OpenSpec.upto fnExactLargestApartSpec)

/-- 'laws.FnExactFewestPiles', WHERE WHAT IT READS IS OF BULK AT MOST 1048576: true; the input reads as it did. -/
def fnExactFewestPilesUptoRow : OpenClaim := { program := "ytipdmnibjkdpcaa", sum := "78fa55b0c215312065b014bbeee4bcd3396a6d0e0ff42399ddbb9b355641b2a3", func := "loop.example/g01366/laws.FnExactFewestPiles", spec := "fnExactFewestPiles", unfollowed := true, recurses := true, apart := false, narrowed := true }
def FnExactFewestPilesUptoSaid : Prop := fnExactFewestPilesUptoRow.holds Try.pinned (OpenSpec.upto fnExactFewestPilesSpec)

/-- 'laws.FnExactCheckPiles', WHERE WHAT IT READS IS OF BULK AT MOST 1048576: true; the input reads as it did. -/
def fnExactCheckPilesUptoRow : OpenClaim := { program := "ytipdmnibjkdpcaa", sum := "78fa55b0c215312065b014bbeee4bcd3396a6d0e0ff42399ddbb9b355641b2a3", func := "loop.example/g01366/laws.FnExactCheckPiles", spec := "fnExactCheckPiles", unfollowed := true, recurses := true, apart := false, narrowed := true }
def FnExactCheckPilesUptoSaid : Prop := fnExactCheckPilesUptoRow.holds Try.pinned (OpenSpec.upto fnExactCheckPilesSpec)

end Rows
end Go.Proofs.Ytipdmnibjkdpcaa
