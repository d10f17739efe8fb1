/-
  No cell of these rows narrows 'for every input' (looked for: loops, veiled, ifaces, maps, wideKeys, modest, calm, conditions, laid).
  DERIVED. THE GIVEN ROWS OF THIS SEAT. 9 by the template 'for every input the law returns true; each argument reads behind the call as it read before'; 0 by the template 'total and deterministic' (their statements: YtnhcdfikjfjkoaaTotals.lean).
  GIVEN WITH THE SEED: the statements are not yours to turn. If you find one false, say at which input.
  Laid BY PROGRAM, IN A SANDBOX (cutbox-rows.mjs): the forced cells as the released guide's own fill.sh prints them over the translation 18cce9054112f5bb… (all of the seat's roots in one cut). By AI agents, Wed Nov 11 2026. No macro, syntax, notation, axiom, sorry.
-/
import Derived.Test.YtnhcdfikjfjkoaaChecked
import GoSem.Claim
import GoSem.ClaimJoined
import GoSem.ClaimMapViews
import Derived.JoinedTies
import Derived.KernelRfl
namespace Go.Proofs.Ytnhcdfikjfjkoaa
/- THE CELL 'sum', in the pinned program and in every row, IS THE sha256 OF THE DUMP (.gsa) THAT YtnhcdfikjfjkoaaProg.lean LOADS. Nothing in Lean hashes anything: it is a label: what it is worth is what the hold of that sum in a sandbox is worth. -/
noncomputable def Try.pinned : Pinned := { name := "ytnhcdfikjfjkoaa", sum := "18cce9054112f5bb3eb5d2dfa4b4a46aa3a1dd6cd087fbf608ee13ccb39152f8", checked := Try.checked }
namespace Rows
def none {H : Type} : Left H := { results := [], args := [] }

/-- 'laws.FnExactBestValue': WHATEVER THE INPUT: true; the input reads as it did. -/
def fnExactBestValueSpec : ChangeSpec := { name := "fnExactBestValue", fn := fun _ => fun
  | [d1, d2] => { results := [.lit (.bool true)], args := [d1, d2] }
  | _ => none }
def fnExactBestValueRow : OpenClaim := { program := "ytnhcdfikjfjkoaa", sum := "18cce9054112f5bb3eb5d2dfa4b4a46aa3a1dd6cd087fbf608ee13ccb39152f8", func := "loop.example/g01366/laws.FnExactBestValue", spec := "fnExactBestValue", unfollowed := true, recurses := true, apart := false }
def FnExactBestValueSaid : Prop := fnExactBestValueRow.holds Try.pinned (OpenSpec.ofChange fnExactBestValueSpec)

/-- ITS FALSE NEIGHBOUR: 'it returns false'. Refute it at one input. -/
def fnExactBestValueWrong : ChangeSpec := { name := "fnExactBestValue", fn := fun _ => fun
  | [d1, d2] => { results := [.lit (.bool false)], args := [d1, d2] }
  | _ => none }
def FnExactBestValueWrongFalsely : Prop := fnExactBestValueRow.holds Try.pinned (OpenSpec.ofChange fnExactBestValueWrong)

/-- 'laws.FnExactValidStock': WHATEVER THE INPUT: true; the input reads as it did. -/
def fnExactValidStockSpec : ChangeSpec := { name := "fnExactValidStock", fn := fun _ => fun
  | [d] => { results := [.lit (.bool true)], args := [d] }
  | _ => none }
def fnExactValidStockRow : OpenClaim := { program := "ytnhcdfikjfjkoaa", sum := "18cce9054112f5bb3eb5d2dfa4b4a46aa3a1dd6cd087fbf608ee13ccb39152f8", func := "loop.example/g01366/laws.FnExactValidStock", spec := "fnExactValidStock", unfollowed := true, recurses := true, apart := false }
def FnExactValidStockSaid : Prop := fnExactValidStockRow.holds Try.pinned (OpenSpec.ofChange fnExactValidStockSpec)

/-- ITS FALSE NEIGHBOUR: 'it returns false'. Refute it at one input. -/
def fnExactValidStockWrong : ChangeSpec := { name := "fnExactValidStock", fn := fun _ => fun
  | [d] => { results := [.lit (.bool false)], args := [d] }
  | _ => none }
def FnExactValidStockWrongFalsely : Prop := fnExactValidStockRow.holds Try.pinned (OpenSpec.ofChange fnExactValidStockWrong)

/-- 'laws.FnExactSameStock': WHATEVER THE INPUT: true; the input reads as it did. -/
def fnExactSameStockSpec : ChangeSpec := { name := "fnExactSameStock", fn := fun _ => fun
  | [d1, d2] => { results := [.lit (.bool true)], args := [d1, d2] }
  | _ => none }
def fnExactSameStockRow : OpenClaim := { program := "ytnhcdfikjfjkoaa", sum := "18cce9054112f5bb3eb5d2dfa4b4a46aa3a1dd6cd087fbf608ee13ccb39152f8", func := "loop.example/g01366/laws.FnExactSameStock", spec := "fnExactSameStock", apart := false }
def FnExactSameStockSaid : Prop := fnExactSameStockRow.holds Try.pinned (OpenSpec.ofChange fnExactSameStockSpec)

/-- ITS FALSE NEIGHBOUR: 'it returns false'. Refute it at one input. -/
def fnExactSameStockWrong : ChangeSpec := { name := "fnExactSameStock", fn := fun _ => fun
  | [d1, d2] => { results := [.lit (.bool false)], args := [d1, d2] }
  | _ => none }
def FnExactSameStockWrongFalsely : Prop := fnExactSameStockRow.holds Try.pinned (OpenSpec.ofChange fnExactSameStockWrong)

/-- 'laws.FnExactStockValue': WHATEVER THE INPUT: true; the input reads as it did. -/
def fnExactStockValueSpec : ChangeSpec := { name := "fnExactStockValue", fn := fun _ => fun
  | [d] => { results := [.lit (.bool true)], args := [d] }
  | _ => none }
def fnExactStockValueRow : OpenClaim := { program := "ytnhcdfikjfjkoaa", sum := "18cce9054112f5bb3eb5d2dfa4b4a46aa3a1dd6cd087fbf608ee13ccb39152f8", func := "loop.example/g01366/laws.FnExactStockValue", spec := "fnExactStockValue", unfollowed := true, recurses := true, apart := false }
def FnExactStockValueSaid : Prop := fnExactStockValueRow.holds Try.pinned (OpenSpec.ofChange fnExactStockValueSpec)

/-- ITS FALSE NEIGHBOUR: 'it returns false'. Refute it at one input. -/
def fnExactStockValueWrong : ChangeSpec := { name := "fnExactStockValue", fn := fun _ => fun
  | [d] => { results := [.lit (.bool false)], args := [d] }
  | _ => none }
def FnExactStockValueWrongFalsely : Prop := fnExactStockValueRow.holds Try.pinned (OpenSpec.ofChange fnExactStockValueWrong)

/-- 'laws.FnExactPayFrom': WHATEVER THE INPUT: true; the input reads as it did. -/
def fnExactPayFromSpec : ChangeSpec := { name := "fnExactPayFrom", fn := fun _ => fun
  | [d1, d2] => { results := [.lit (.bool true)], args := [d1, d2] }
  | _ => none }
def fnExactPayFromRow : OpenClaim := { program := "ytnhcdfikjfjkoaa", sum := "18cce9054112f5bb3eb5d2dfa4b4a46aa3a1dd6cd087fbf608ee13ccb39152f8", func := "loop.example/g01366/laws.FnExactPayFrom", spec := "fnExactPayFrom", unfollowed := true, recurses := true, apart := false }
def FnExactPayFromSaid : Prop := fnExactPayFromRow.holds Try.pinned (OpenSpec.ofChange fnExactPayFromSpec)

/-- ITS FALSE NEIGHBOUR: 'it returns false'. Refute it at one input. -/
def fnExactPayFromWrong : ChangeSpec := { name := "fnExactPayFrom", fn := fun _ => fun
  | [d1, d2] => { results := [.lit (.bool false)], args := [d1, d2] }
  | _ => none }
def FnExactPayFromWrongFalsely : Prop := fnExactPayFromRow.holds Try.pinned (OpenSpec.ofChange fnExactPayFromWrong)

/-- 'laws.FnExactOverFrom': WHATEVER THE INPUT: true; the input reads as it did. -/
def fnExactOverFromSpec : ChangeSpec := { name := "fnExactOverFrom", fn := fun _ => fun
  | [d1, d2] => { results := [.lit (.bool true)], args := [d1, d2] }
  | _ => none }
def fnExactOverFromRow : OpenClaim := { program := "ytnhcdfikjfjkoaa", sum := "18cce9054112f5bb3eb5d2dfa4b4a46aa3a1dd6cd087fbf608ee13ccb39152f8", func := "loop.example/g01366/laws.FnExactOverFrom", spec := "fnExactOverFrom", unfollowed := true, recurses := true, apart := false }
def FnExactOverFromSaid : Prop := fnExactOverFromRow.holds Try.pinned (OpenSpec.ofChange fnExactOverFromSpec)

/-- ITS FALSE NEIGHBOUR: 'it returns false'. Refute it at one input. -/
def fnExactOverFromWrong : ChangeSpec := { name := "fnExactOverFrom", fn := fun _ => fun
  | [d1, d2] => { results := [.lit (.bool false)], args := [d1, d2] }
  | _ => none }
def FnExactOverFromWrongFalsely : Prop := fnExactOverFromRow.holds Try.pinned (OpenSpec.ofChange fnExactOverFromWrong)

/-- 'laws.FnExactTakeFrom': WHATEVER THE INPUT: true; the input reads as it did. -/
def fnExactTakeFromSpec : ChangeSpec := { name := "fnExactTakeFrom", fn := fun _ => fun
  | [d1, d2] => { results := [.lit (.bool true)], args := [d1, d2] }
  | _ => none }
def fnExactTakeFromRow : OpenClaim := { program := "ytnhcdfikjfjkoaa", sum := "18cce9054112f5bb3eb5d2dfa4b4a46aa3a1dd6cd087fbf608ee13ccb39152f8", func := "loop.example/g01366/laws.FnExactTakeFrom", spec := "fnExactTakeFrom", unfollowed := true, recurses := true, apart := false }
def FnExactTakeFromSaid : Prop := fnExactTakeFromRow.holds Try.pinned (OpenSpec.ofChange fnExactTakeFromSpec)

/-- ITS FALSE NEIGHBOUR: 'it returns false'. Refute it at one input. -/
def fnExactTakeFromWrong : ChangeSpec := { name := "fnExactTakeFrom", fn := fun _ => fun
  | [d1, d2] => { results := [.lit (.bool false)], args := [d1, d2] }
  | _ => none }
def FnExactTakeFromWrongFalsely : Prop := fnExactTakeFromRow.holds Try.pinned (OpenSpec.ofChange fnExactTakeFromWrong)

/-- 'laws.FnExactSpendAll': WHATEVER THE INPUT: true; the input reads as it did. -/
def fnExactSpendAllSpec : ChangeSpec := { name := "fnExactSpendAll", fn := fun _ => fun
  | [d1, d2] => { results := [.lit (.bool true)], args := [d1, d2] }
  | _ => none }
def fnExactSpendAllRow : OpenClaim := { program := "ytnhcdfikjfjkoaa", sum := "18cce9054112f5bb3eb5d2dfa4b4a46aa3a1dd6cd087fbf608ee13ccb39152f8", func := "loop.example/g01366/laws.FnExactSpendAll", spec := "fnExactSpendAll", unfollowed := true, recurses := true, apart := false }
def FnExactSpendAllSaid : Prop := fnExactSpendAllRow.holds Try.pinned (OpenSpec.ofChange fnExactSpendAllSpec)

/-- ITS FALSE NEIGHBOUR: 'it returns false'. Refute it at one input. -/
def fnExactSpendAllWrong : ChangeSpec := { name := "fnExactSpendAll", fn := fun _ => fun
  | [d1, d2] => { results := [.lit (.bool false)], args := [d1, d2] }
  | _ => none }
def FnExactSpendAllWrongFalsely : Prop := fnExactSpendAllRow.holds Try.pinned (OpenSpec.ofChange fnExactSpendAllWrong)

/-- 'laws.FnExactMostLetters': WHATEVER THE INPUT: true; the input reads as it did. -/
def fnExactMostLettersSpec : ChangeSpec := { name := "fnExactMostLetters", fn := fun _ => fun
  | [d1, d2] => { results := [.lit (.bool true)], args := [d1, d2] }
  | _ => none }
def fnExactMostLettersRow : OpenClaim := { program := "ytnhcdfikjfjkoaa", sum := "18cce9054112f5bb3eb5d2dfa4b4a46aa3a1dd6cd087fbf608ee13ccb39152f8", func := "loop.example/g01366/laws.FnExactMostLetters", spec := "fnExactMostLetters", unfollowed := true, recurses := true, apart := false }
def FnExactMostLettersSaid : Prop := fnExactMostLettersRow.holds Try.pinned (OpenSpec.ofChange fnExactMostLettersSpec)

/-- ITS FALSE NEIGHBOUR: 'it returns false'. Refute it at one input. -/
def fnExactMostLettersWrong : ChangeSpec := { name := "fnExactMostLetters", fn := fun _ => fun
  | [d1, d2] => { results := [.lit (.bool false)], args := [d1, d2] }
  | _ => none }
def FnExactMostLettersWrongFalsely : Prop := fnExactMostLettersRow.holds Try.pinned (OpenSpec.ofChange fnExactMostLettersWrong)

/- THE SECOND FORM. 'bulk': how many values and letters a reading holds, each counted each time it is reached (what is shared counts as often as it is met; a slice's spare places count too). A statement '..UptoSaid' is the law's where the arguments, and the package variables that the reading takes, are together of bulk at most 1048576: NARROWER than '..Said'. Prove '..Said' where nothing that the law and all that it calls make is longer than what came in: it says more and counts as full. Else prove '..UptoSaid'. A law counts once. -/
mutual
def uptoBulk {H : Type} : DataW H → Nat
  | .lit (.string bytes) => bytes.length + 1
  | .lit _ => 1
  | .nil => 1
  | .ptr d => uptoBulk d + 1
  | .slice elems spare => uptoBulkAll elems + uptoBulkAll spare + 1
  | .agg parts => uptoBulkAll parts + 1
  | .iface _ d => uptoBulk d + 1
  | .map entries => uptoBulkEntries entries + 1
  | .held _ => 1
def uptoBulkAll {H : Type} : List (DataW H) → Nat
  | [] => 0
  | d :: r => uptoBulk d + uptoBulkAll r
def uptoBulkEntries {H : Type} : List (Lit × DataW H) → Nat
  | [] => 0
  | x :: r => uptoBulkEntry x + uptoBulkEntries r
def uptoBulkEntry {H : Type} : Lit × DataW H → Nat
  | (.string bytes, d) => bytes.length + uptoBulk d + 1
  | (_, d) => uptoBulk d + 1
 end
def uptoSmall : (H : Type) → List (DataW H) → Bool := fun _ ds => decide (uptoBulkAll ds ≤ 1048576)
def OpenSpec.upto (s : _root_.Go.ChangeSpec) : _root_.Go.OpenSpec := { _root_.Go.OpenSpec.ofChange s with cond := some uptoSmall }

/-- 'laws.FnExactBestValue', WHERE WHAT IT READS IS OF BULK AT MOST 1048576: true; the input reads as it did. -/
def fnExactBestValueUptoRow : OpenClaim := { program := "ytnhcdfikjfjkoaa", sum := "18cce9054112f5bb3eb5d2dfa4b4a46aa3a1dd6cd087fbf608ee13ccb39152f8", func := "loop.example/g01366/laws.FnExactBestValue", spec := "fnExactBestValue", unfollowed := true, recurses := true, apart := false, narrowed := true }
def FnExactBestValueUptoSaid : Prop := fnExactBestValueUptoRow.holds Try.pinned (OpenSpec.upto fnExactBestValueSpec)

/-- 'laws.FnExactValidStock', WHERE WHAT IT READS IS OF BULK AT MOST 1048576: true; the input reads as it did. -/
def fnExactValidStockUptoRow : OpenClaim := { program := "ytnhcdfikjfjkoaa", sum := "18cce9054112f5bb3eb5d2dfa4b4a46aa3a1dd6cd087fbf608ee13ccb39152f8", func := "loop.example/g01366/laws.FnExactValidStock", spec := "fnExactValidStock", unfollowed := true, recurses := true, apart := false, narrowed := true }
def FnExactValidStockUptoSaid : Prop := fnExactValidStockUptoRow.holds Try.pinned (OpenSpec.upto fnExactValidStockSpec)

/-- 'laws.FnExactSameStock', WHERE WHAT IT READS IS OF BULK AT MOST 1048576: true; the input reads as it did. -/
def fnExactSameStockUptoRow : OpenClaim := { program := "ytnhcdfikjfjkoaa", sum := "18cce9054112f5bb3eb5d2dfa4b4a46aa3a1dd6cd087fbf608ee13ccb39152f8", func := "loop.example/g01366/laws.FnExactSameStock", spec := "fnExactSameStock", apart := false, narrowed := true }
def FnExactSameStockUptoSaid : Prop := fnExactSameStockUptoRow.holds Try.pinned (OpenSpec.upto fnExactSameStockSpec)

/-- 'laws.FnExactStockValue', WHERE WHAT IT READS IS OF BULK AT MOST 1048576: true; the input reads as it did. -/
def fnExactStockValueUptoRow : OpenClaim := { program := "ytnhcdfikjfjkoaa", sum := "18cce9054112f5bb3eb5d2dfa4b4a46aa3a1dd6cd087fbf608ee13ccb39152f8", func := "loop.example/g01366/laws.FnExactStockValue", spec := "fnExactStockValue", unfollowed := true, recurses := true, apart := false, narrowed := true }
def FnExactStockValueUptoSaid : Prop := fnExactStockValueUptoRow.holds Try.pinned (OpenSpec.upto fnExactStockValueSpec)

/-- 'laws.FnExactPayFrom', WHERE WHAT IT READS IS OF BULK AT MOST 1048576: true; the input reads as it did. -/
def fnExactPayFromUptoRow : OpenClaim := { program := "ytnhcdfikjfjkoaa", sum := "18cce9054112f5bb3eb5d2dfa4b4a46aa3a1dd6cd087fbf608ee13ccb39152f8", func := "loop.example/g01366/laws.FnExactPayFrom", spec := "fnExactPayFrom", unfollowed := true, recurses := true, apart := false, narrowed := true }
def FnExactPayFromUptoSaid : Prop := fnExactPayFromUptoRow.holds Try.pinned (OpenSpec.upto fnExactPayFromSpec)

/-- 'laws.FnExactOverFrom', WHERE WHAT IT READS IS OF BULK AT MOST 1048576: true; the input reads as it did. -/
def fnExactOverFromUptoRow : OpenClaim := { program := "ytnhcdfikjfjkoaa", sum := "18cce9054112f5bb3eb5d2dfa4b4a46aa3a1dd6cd087fbf608ee13ccb39152f8", func := "loop.example/g01366/laws.FnExactOverFrom", spec := "fnExactOverFrom", unfollowed := true, recurses := true, apart := false, narrowed := true }
def FnExactOverFromUptoSaid : Prop := fnExactOverFromUptoRow.holds Try.pinned (OpenSpec.upto fnExactOverFromSpec)

/-- 'laws.FnExactTakeFrom', WHERE WHAT IT READS IS OF BULK AT MOST 1048576: true; the input reads as it did. -/
def fnExactTakeFromUptoRow : OpenClaim := { program := "ytnhcdfikjfjkoaa", sum := "18cce9054112f5bb3eb5d2dfa4b4a46aa3a1dd6cd087fbf608ee13ccb39152f8", func := "loop.example/g01366/laws.FnExactTakeFrom", spec := "fnExactTakeFrom", unfollowed := true, recurses := true, apart := false, narrowed := true }
def FnExactTakeFromUptoSaid : Prop := fnExactTakeFromUptoRow.holds Try.pinned (OpenSpec.upto fnExactTakeFromSpec)

/-- 'laws.FnExactSpendAll', WHERE WHAT IT READS IS OF BULK AT MOST 1048576: true; the input reads as it did. -/
def fnExactSpendAllUptoRow : OpenClaim := { program := "ytnhcdfikjfjkoaa", sum := "18cce9054112f5bb3eb5d2dfa4b4a46aa3a1dd6cd087fbf608ee13ccb39152f8", func := "loop.example/g01366/laws.FnExactSpendAll", spec := "fnExactSpendAll", unfollowed := true, recurses := true, apart := false, narrowed := true }
def FnExactSpendAllUptoSaid : Prop := fnExactSpendAllUptoRow.holds Try.pinned (OpenSpec.upto fnExactSpendAllSpec)

/-- 'laws.FnExactMostLetters', WHERE WHAT IT READS IS OF BULK AT MOST 1048576: true; the input reads as it did. -/
def fnExactMostLettersUptoRow : OpenClaim := { program := "ytnhcdfikjfjkoaa", sum := "18cce9054112f5bb3eb5d2dfa4b4a46aa3a1dd6cd087fbf608ee13ccb39152f8", func := "loop.example/g01366/laws.FnExactMostLetters", spec := "fnExactMostLetters", unfollowed := true, recurses := true, apart := false, narrowed := true }
def FnExactMostLettersUptoSaid : Prop := fnExactMostLettersUptoRow.holds Try.pinned (OpenSpec.upto fnExactMostLettersSpec)

end Rows
end Go.Proofs.Ytnhcdfikjfjkoaa
