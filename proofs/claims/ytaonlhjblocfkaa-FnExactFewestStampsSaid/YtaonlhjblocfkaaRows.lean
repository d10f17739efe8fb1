/-
  No cell of these rows narrows 'for every input' (looked for: loops, veiled, ifaces, maps, wideKeys, modest, calm, conditions, laid).
  DERIVED. THE GIVEN ROWS OF THIS SEAT. 12 by the template 'for every input the law returns true; each argument reads behind the call as it read before'; 0 by the template 'total and deterministic' (their statements: YtaonlhjblocfkaaTotals.lean).
  GIVEN WITH THE SEED: the statements are not yours to turn. If you find one false, say at which input.
  Laid BY PROGRAM, IN A SANDBOX (cutbox-rows.mjs): the forced cells as the released guide's own fill.sh prints them over the translation 4d2921604894cae1… (all of the seat's roots in one cut). By AI agents, Wed Nov 11 2026. No macro, syntax, notation, axiom, sorry.
-/
import Derived.Test.YtaonlhjblocfkaaChecked
import GoSem.Claim
import GoSem.ClaimJoined
import GoSem.ClaimMapViews
import Derived.JoinedTies
import Derived.KernelRfl
namespace Go.Proofs.Ytaonlhjblocfkaa
/- THE CELL 'sum', in the pinned program and in every row, IS THE sha256 OF THE DUMP (.gsa) THAT YtaonlhjblocfkaaProg.lean LOADS. Nothing in Lean hashes anything: it is a label: what it is worth is what the hold of that sum in a sandbox is worth. -/
noncomputable def Try.pinned : Pinned := { name := "ytaonlhjblocfkaa", sum := "4d2921604894cae187fc30191f89ddda41fbb207252151765ef30dced9653e4a", checked := Try.checked }
namespace Rows
def none {H : Type} : Left H := { results := [], args := [] }

/-- 'laws.FnExactConstants': WHATEVER THE INPUT: true; the input reads as it did. -/
def fnExactConstantsSpec : ChangeSpec := { name := "fnExactConstants", fn := fun _ => fun
  | [] => { results := [.lit (.bool true)], args := [] }
  | _ => none }
def fnExactConstantsRow : OpenClaim := { program := "ytaonlhjblocfkaa", sum := "4d2921604894cae187fc30191f89ddda41fbb207252151765ef30dced9653e4a", func := "loop.example/g01366/laws.FnExactConstants", spec := "fnExactConstants", apart := false }
def FnExactConstantsSaid : Prop := fnExactConstantsRow.holds Try.pinned (OpenSpec.ofChange fnExactConstantsSpec)

/-- ITS FALSE NEIGHBOUR: 'it returns false'. Refute it at one input. -/
def fnExactConstantsWrong : ChangeSpec := { name := "fnExactConstants", fn := fun _ => fun
  | [] => { results := [.lit (.bool false)], args := [] }
  | _ => none }
def FnExactConstantsWrongFalsely : Prop := fnExactConstantsRow.holds Try.pinned (OpenSpec.ofChange fnExactConstantsWrong)

/-- 'laws.FnExactCodeName': WHATEVER THE INPUT: true; the input reads as it did. -/
def fnExactCodeNameSpec : ChangeSpec := { name := "fnExactCodeName", fn := fun _ => fun
  | [d] => { results := [.lit (.bool true)], args := [d] }
  | _ => none }
def fnExactCodeNameRow : OpenClaim := { program := "ytaonlhjblocfkaa", sum := "4d2921604894cae187fc30191f89ddda41fbb207252151765ef30dced9653e4a", func := "loop.example/g01366/laws.FnExactCodeName", spec := "fnExactCodeName", apart := false }
def FnExactCodeNameSaid : Prop := fnExactCodeNameRow.holds Try.pinned (OpenSpec.ofChange fnExactCodeNameSpec)

/-- ITS FALSE NEIGHBOUR: 'it returns false'. Refute it at one input. -/
def fnExactCodeNameWrong : ChangeSpec := { name := "fnExactCodeName", fn := fun _ => fun
  | [d] => { results := [.lit (.bool false)], args := [d] }
  | _ => none }
def FnExactCodeNameWrongFalsely : Prop := fnExactCodeNameRow.holds Try.pinned (OpenSpec.ofChange fnExactCodeNameWrong)

/-- 'laws.FnExactValidValues': WHATEVER THE INPUT: true; the input reads as it did. -/
def fnExactValidValuesSpec : ChangeSpec := { name := "fnExactValidValues", fn := fun _ => fun
  | [d] => { results := [.lit (.bool true)], args := [d] }
  | _ => none }
def fnExactValidValuesRow : OpenClaim := { program := "ytaonlhjblocfkaa", sum := "4d2921604894cae187fc30191f89ddda41fbb207252151765ef30dced9653e4a", func := "loop.example/g01366/laws.FnExactValidValues", spec := "fnExactValidValues", unfollowed := true, recurses := true, apart := false }
def FnExactValidValuesSaid : Prop := fnExactValidValuesRow.holds Try.pinned (OpenSpec.ofChange fnExactValidValuesSpec)

/-- ITS FALSE NEIGHBOUR: 'it returns false'. Refute it at one input. -/
def fnExactValidValuesWrong : ChangeSpec := { name := "fnExactValidValues", fn := fun _ => fun
  | [d] => { results := [.lit (.bool false)], args := [d] }
  | _ => none }
def FnExactValidValuesWrongFalsely : Prop := fnExactValidValuesRow.holds Try.pinned (OpenSpec.ofChange fnExactValidValuesWrong)

/-- 'laws.FnExactCanPay': WHATEVER THE INPUT: true; the input reads as it did. -/
def fnExactCanPaySpec : ChangeSpec := { name := "fnExactCanPay", fn := fun _ => fun
  | [d1, d2] => { results := [.lit (.bool true)], args := [d1, d2] }
  | _ => none }
def fnExactCanPayRow : OpenClaim := { program := "ytaonlhjblocfkaa", sum := "4d2921604894cae187fc30191f89ddda41fbb207252151765ef30dced9653e4a", func := "loop.example/g01366/laws.FnExactCanPay", spec := "fnExactCanPay", unfollowed := true, recurses := true, apart := false }
def FnExactCanPaySaid : Prop := fnExactCanPayRow.holds Try.pinned (OpenSpec.ofChange fnExactCanPaySpec)

/-- ITS FALSE NEIGHBOUR: 'it returns false'. Refute it at one input. -/
def fnExactCanPayWrong : ChangeSpec := { name := "fnExactCanPay", fn := fun _ => fun
  | [d1, d2] => { results := [.lit (.bool false)], args := [d1, d2] }
  | _ => none }
def FnExactCanPayWrongFalsely : Prop := fnExactCanPayRow.holds Try.pinned (OpenSpec.ofChange fnExactCanPayWrong)

/-- 'laws.FnExactFewestStamps': WHATEVER THE INPUT: true; the input reads as it did. -/
def fnExactFewestStampsSpec : ChangeSpec := { name := "fnExactFewestStamps", fn := fun _ => fun
  | [d1, d2] => { results := [.lit (.bool true)], args := [d1, d2] }
  | _ => none }
def fnExactFewestStampsRow : OpenClaim := { program := "ytaonlhjblocfkaa", sum := "4d2921604894cae187fc30191f89ddda41fbb207252151765ef30dced9653e4a", func := "loop.example/g01366/laws.FnExactFewestStamps", spec := "fnExactFewestStamps", unfollowed := true, recurses := true, apart := false }
def FnExactFewestStampsSaid : Prop := fnExactFewestStampsRow.holds Try.pinned (OpenSpec.ofChange fnExactFewestStampsSpec)

/-- ITS FALSE NEIGHBOUR: 'it returns false'. Refute it at one input. -/
def fnExactFewestStampsWrong : ChangeSpec := { name := "fnExactFewestStamps", fn := fun _ => fun
  | [d1, d2] => { results := [.lit (.bool false)], args := [d1, d2] }
  | _ => none }
def FnExactFewestStampsWrongFalsely : Prop := fnExactFewestStampsRow.holds Try.pinned (OpenSpec.ofChange fnExactFewestStampsWrong)

/-- 'laws.FnExactGreedyStamps': WHATEVER THE INPUT: true; the input reads as it did. -/
def fnExactGreedyStampsSpec : ChangeSpec := { name := "fnExactGreedyStamps", fn := fun _ => fun
  | [d1, d2] => { results := [.lit (.bool true)], args := [d1, d2] }
  | _ => none }
def fnExactGreedyStampsRow : OpenClaim := { program := "ytaonlhjblocfkaa", sum := "4d2921604894cae187fc30191f89ddda41fbb207252151765ef30dced9653e4a", func := "loop.example/g01366/laws.FnExactGreedyStamps", spec := "fnExactGreedyStamps", unfollowed := true, recurses := true, apart := false }
def FnExactGreedyStampsSaid : Prop := fnExactGreedyStampsRow.holds Try.pinned (OpenSpec.ofChange fnExactGreedyStampsSpec)

/-- ITS FALSE NEIGHBOUR: 'it returns false'. Refute it at one input. -/
def fnExactGreedyStampsWrong : ChangeSpec := { name := "fnExactGreedyStamps", fn := fun _ => fun
  | [d1, d2] => { results := [.lit (.bool false)], args := [d1, d2] }
  | _ => none }
def FnExactGreedyStampsWrongFalsely : Prop := fnExactGreedyStampsRow.holds Try.pinned (OpenSpec.ofChange fnExactGreedyStampsWrong)

/-- 'laws.FnExactFirstWrongGreedy': WHATEVER THE INPUT: true; the input reads as it did. -/
def fnExactFirstWrongGreedySpec : ChangeSpec := { name := "fnExactFirstWrongGreedy", fn := fun _ => fun
  | [d] => { results := [.lit (.bool true)], args := [d] }
  | _ => none }
def fnExactFirstWrongGreedyRow : OpenClaim := { program := "ytaonlhjblocfkaa", sum := "4d2921604894cae187fc30191f89ddda41fbb207252151765ef30dced9653e4a", func := "loop.example/g01366/laws.FnExactFirstWrongGreedy", spec := "fnExactFirstWrongGreedy", unfollowed := true, recurses := true, apart := false }
def FnExactFirstWrongGreedySaid : Prop := fnExactFirstWrongGreedyRow.holds Try.pinned (OpenSpec.ofChange fnExactFirstWrongGreedySpec)

/-- ITS FALSE NEIGHBOUR: 'it returns false'. Refute it at one input. -/
def fnExactFirstWrongGreedyWrong : ChangeSpec := { name := "fnExactFirstWrongGreedy", fn := fun _ => fun
  | [d] => { results := [.lit (.bool false)], args := [d] }
  | _ => none }
def FnExactFirstWrongGreedyWrongFalsely : Prop := fnExactFirstWrongGreedyRow.holds Try.pinned (OpenSpec.ofChange fnExactFirstWrongGreedyWrong)

/-- 'laws.FnExactWaysToPay': WHATEVER THE INPUT: true; the input reads as it did. -/
def fnExactWaysToPaySpec : ChangeSpec := { name := "fnExactWaysToPay", fn := fun _ => fun
  | [d1, d2] => { results := [.lit (.bool true)], args := [d1, d2] }
  | _ => none }
def fnExactWaysToPayRow : OpenClaim := { program := "ytaonlhjblocfkaa", sum := "4d2921604894cae187fc30191f89ddda41fbb207252151765ef30dced9653e4a", func := "loop.example/g01366/laws.FnExactWaysToPay", spec := "fnExactWaysToPay", unfollowed := true, recurses := true, apart := false }
def FnExactWaysToPaySaid : Prop := fnExactWaysToPayRow.holds Try.pinned (OpenSpec.ofChange fnExactWaysToPaySpec)

/-- ITS FALSE NEIGHBOUR: 'it returns false'. Refute it at one input. -/
def fnExactWaysToPayWrong : ChangeSpec := { name := "fnExactWaysToPay", fn := fun _ => fun
  | [d1, d2] => { results := [.lit (.bool false)], args := [d1, d2] }
  | _ => none }
def FnExactWaysToPayWrongFalsely : Prop := fnExactWaysToPayRow.holds Try.pinned (OpenSpec.ofChange fnExactWaysToPayWrong)

/-- 'laws.FnExactGapsUpTo': WHATEVER THE INPUT: true; the input reads as it did. -/
def fnExactGapsUpToSpec : ChangeSpec := { name := "fnExactGapsUpTo", fn := fun _ => fun
  | [d1, d2] => { results := [.lit (.bool true)], args := [d1, d2] }
  | _ => none }
def fnExactGapsUpToRow : OpenClaim := { program := "ytaonlhjblocfkaa", sum := "4d2921604894cae187fc30191f89ddda41fbb207252151765ef30dced9653e4a", func := "loop.example/g01366/laws.FnExactGapsUpTo", spec := "fnExactGapsUpTo", unfollowed := true, recurses := true, apart := false }
def FnExactGapsUpToSaid : Prop := fnExactGapsUpToRow.holds Try.pinned (OpenSpec.ofChange fnExactGapsUpToSpec)

/-- ITS FALSE NEIGHBOUR: 'it returns false'. Refute it at one input. -/
def fnExactGapsUpToWrong : ChangeSpec := { name := "fnExactGapsUpTo", fn := fun _ => fun
  | [d1, d2] => { results := [.lit (.bool false)], args := [d1, d2] }
  | _ => none }
def FnExactGapsUpToWrongFalsely : Prop := fnExactGapsUpToRow.holds Try.pinned (OpenSpec.ofChange fnExactGapsUpToWrong)

/-- 'laws.FnExactGreatestGap': WHATEVER THE INPUT: true; the input reads as it did. -/
def fnExactGreatestGapSpec : ChangeSpec := { name := "fnExactGreatestGap", fn := fun _ => fun
  | [d] => { results := [.lit (.bool true)], args := [d] }
  | _ => none }
def fnExactGreatestGapRow : OpenClaim := { program := "ytaonlhjblocfkaa", sum := "4d2921604894cae187fc30191f89ddda41fbb207252151765ef30dced9653e4a", func := "loop.example/g01366/laws.FnExactGreatestGap", spec := "fnExactGreatestGap", unfollowed := true, recurses := true, apart := false }
def FnExactGreatestGapSaid : Prop := fnExactGreatestGapRow.holds Try.pinned (OpenSpec.ofChange fnExactGreatestGapSpec)

/-- ITS FALSE NEIGHBOUR: 'it returns false'. Refute it at one input. -/
def fnExactGreatestGapWrong : ChangeSpec := { name := "fnExactGreatestGap", fn := fun _ => fun
  | [d] => { results := [.lit (.bool false)], args := [d] }
  | _ => none }
def FnExactGreatestGapWrongFalsely : Prop := fnExactGreatestGapRow.holds Try.pinned (OpenSpec.ofChange fnExactGreatestGapWrong)

/-- 'laws.FnExactLeastOver': WHATEVER THE INPUT: true; the input reads as it did. -/
def fnExactLeastOverSpec : ChangeSpec := { name := "fnExactLeastOver", fn := fun _ => fun
  | [d1, d2] => { results := [.lit (.bool true)], args := [d1, d2] }
  | _ => none }
def fnExactLeastOverRow : OpenClaim := { program := "ytaonlhjblocfkaa", sum := "4d2921604894cae187fc30191f89ddda41fbb207252151765ef30dced9653e4a", func := "loop.example/g01366/laws.FnExactLeastOver", spec := "fnExactLeastOver", unfollowed := true, recurses := true, apart := false }
def FnExactLeastOverSaid : Prop := fnExactLeastOverRow.holds Try.pinned (OpenSpec.ofChange fnExactLeastOverSpec)

/-- ITS FALSE NEIGHBOUR: 'it returns false'. Refute it at one input. -/
def fnExactLeastOverWrong : ChangeSpec := { name := "fnExactLeastOver", fn := fun _ => fun
  | [d1, d2] => { results := [.lit (.bool false)], args := [d1, d2] }
  | _ => none }
def FnExactLeastOverWrongFalsely : Prop := fnExactLeastOverRow.holds Try.pinned (OpenSpec.ofChange fnExactLeastOverWrong)

/-- 'laws.FnExactReachOf': WHATEVER THE INPUT: true; the input reads as it did. -/
def fnExactReachOfSpec : ChangeSpec := { name := "fnExactReachOf", fn := fun _ => fun
  | [d1, d2] => { results := [.lit (.bool true)], args := [d1, d2] }
  | _ => none }
def fnExactReachOfRow : OpenClaim := { program := "ytaonlhjblocfkaa", sum := "4d2921604894cae187fc30191f89ddda41fbb207252151765ef30dced9653e4a", func := "loop.example/g01366/laws.FnExactReachOf", spec := "fnExactReachOf", unfollowed := true, recurses := true, apart := false }
def FnExactReachOfSaid : Prop := fnExactReachOfRow.holds Try.pinned (OpenSpec.ofChange fnExactReachOfSpec)

/-- ITS FALSE NEIGHBOUR: 'it returns false'. Refute it at one input. -/
def fnExactReachOfWrong : ChangeSpec := { name := "fnExactReachOf", fn := fun _ => fun
  | [d1, d2] => { results := [.lit (.bool false)], args := [d1, d2] }
  | _ => none }
def FnExactReachOfWrongFalsely : Prop := fnExactReachOfRow.holds Try.pinned (OpenSpec.ofChange fnExactReachOfWrong)

/- THE SECOND FORM. 'bulk': how many values and letters a reading holds, each counted each time it is reached (what is shared counts as often as it is met; a slice's spare places count too). A statement '..UptoSaid' is the law's where the arguments, and the package variables that the reading takes, are together of bulk at most 1048576: NARROWER than '..Said'. Prove '..Said' where nothing that the law and all that it calls make is longer than what came in: it says more and counts as full. Else prove '..UptoSaid'. A law counts once. -/
mutual
def uptoBulk {H : Type} : DataW H → Nat
  | .lit (.string bytes) => bytes.length + 1
  | .lit _ => 1
  | .nil => 1
  | .ptr d => uptoBulk d + 1
  | .slice elems spare => uptoBulkAll elems + uptoBulkAll spare + 1
  | .agg parts => uptoBulkAll parts + 1
  | .iface _ d => uptoBulk d + 1
  | .map entries => uptoBulkEntries entries + 1
  | .held _ => 1
def uptoBulkAll {H : Type} : List (DataW H) → Nat
  | [] => 0
  | d :: r => uptoBulk d + uptoBulkAll r
def uptoBulkEntries {H : Type} : List (Lit × DataW H) → Nat
  | [] => 0
  | x :: r => uptoBulkEntry x + uptoBulkEntries r
def uptoBulkEntry {H : Type} : Lit × DataW H → Nat
  | (.string bytes, d) => bytes.length + uptoBulk d + 1
  | (_, d) => uptoBulk d + 1
 end
def uptoSmall : (H : Type) → List (DataW H) → Bool := fun _ ds => decide (uptoBulkAll ds ≤ 1048576)
def OpenSpec.upto (s : _root_.Go.ChangeSpec) : _root_.Go.OpenSpec := { _root_.Go.OpenSpec.ofChange s with cond := some uptoSmall }

/-- 'laws.FnExactConstants', WHERE WHAT IT READS IS OF BULK AT MOST 1048576: true; the input reads as it did. -/
def fnExactConstantsUptoRow : OpenClaim := { program := "ytaonlhjblocfkaa", sum := "4d2921604894cae187fc30191f89ddda41fbb207252151765ef30dced9653e4a", func := "loop.example/g01366/laws.FnExactConstants", spec := "fnExactConstants", apart := false, narrowed := true }
def FnExactConstantsUptoSaid : Prop := fnExactConstantsUptoRow.holds Try.pinned (OpenSpec.upto fnExactConstantsSpec)

/-- 'laws.FnExactCodeName', WHERE WHAT IT READS IS OF BULK AT MOST 1048576: true; the input reads as it did. -/
def fnExactCodeNameUptoRow : OpenClaim := { program := "ytaonlhjblocfkaa", sum := "4d2921604894cae187fc30191f89ddda41fbb207252151765ef30dced9653e4a", func := "loop.example/g01366/laws.FnExactCodeName", spec := "fnExactCodeName", apart := false, narrowed := true }
def FnExactCodeNameUptoSaid : Prop := fnExactCodeNameUptoRow.holds Try.pinned (OpenSpec.upto fnExactCodeNameSpec)

/-- 'laws.FnExactValidValues', WHERE WHAT IT READS IS OF BULK AT MOST 1048576: true; the input reads as it did. -/
def fnExactValidValuesUptoRow : OpenClaim := { program := "ytaonlhjblocfkaa", sum := "4d2921604894cae187fc30191f89ddda41fbb207252151765ef30dced9653e4a", func := "loop.example/g01366/laws.FnExactValidValues", spec := "fnExactValidValues", unfollowed := true, recurses := true, apart := false, narrowed := true }
def FnExactValidValuesUptoSaid : Prop := fnExactValidValuesUptoRow.holds Try.pinned (OpenSpec.upto fnExactValidValuesSpec)

/-- 'laws.FnExactCanPay', WHERE WHAT IT READS IS OF BULK AT MOST 1048576: true; the input reads as it did. -/
def fnExactCanPayUptoRow : OpenClaim := { program := "ytaonlhjblocfkaa", sum := "4d2921604894cae187fc30191f89ddda41fbb207252151765ef30dced9653e4a", func := "loop.example/g01366/laws.FnExactCanPay", spec := "fnExactCanPay", unfollowed := true, recurses := true, apart := false, narrowed := true }
def FnExactCanPayUptoSaid : Prop := fnExactCanPayUptoRow.holds Try.pinned (OpenSpec.upto fnExactCanPaySpec)

/-- 'laws.FnExactFewestStamps', WHERE WHAT IT READS IS OF BULK AT MOST 1048576: true; the input reads as it did. -/
def fnExactFewestStampsUptoRow : OpenClaim := { program := "ytaonlhjblocfkaa", sum := "4d2921604894cae187fc30191f89ddda41fbb207252151765ef30dced9653e4a", func := "loop.example/g01366/laws.FnExactFewestStamps", spec := "fnExactFewestStamps", unfollowed := true, recurses := true, apart := false, narrowed := true }
def FnExactFewestStampsUptoSaid : Prop := fnExactFewestStampsUptoRow.holds Try.pinned (OpenSpec.upto fnExactFewestStampsSpec)

/-- 'laws.FnExactGreedyStamps', WHERE WHAT IT READS IS OF BULK AT MOST 1048576: true; the input reads as it did. -/
def fnExactGreedyStampsUptoRow : OpenClaim := { program := "ytaonlhjblocfkaa", sum := "4d2921604894cae187fc30191f89ddda41fbb207252151765ef30dced9653e4a", func := "loop.example/g01366/laws.FnExactGreedyStamps", spec := "fnExactGreedyStamps", unfollowed := true, recurses := true, apart := false, narrowed := true }
def FnExactGreedyStampsUptoSaid : Prop := fnExactGreedyStampsUptoRow.holds Try.pinned (OpenSpec.upto fnExactGreedyStampsSpec)

/-- 'laws.FnExactFirstWrongGreedy', WHERE WHAT IT READS IS OF BULK AT MOST 1048576: true; the input reads as it did. -/
def fnExactFirstWrongGreedyUptoRow : OpenClaim := { program := "ytaonlhjblocfkaa", sum := "4d2921604894cae187fc30191f89ddda41fbb207252151765ef30dced9653e4a", func := "loop.example/g01366/laws.FnExactFirstWrongGreedy", spec := "fnExactFirstWrongGreedy", unfollowed := true, recurses := true, apart := false, narrowed := true }
def FnExactFirstWrongGreedyUptoSaid : Prop := fnExactFirstWrongGreedyUptoRow.holds Try.pinned (OpenSpec.upto fnExactFirstWrongGreedySpec)

/-- 'laws.FnExactWaysToPay', WHERE WHAT IT READS IS OF BULK AT MOST 1048576: true; the input reads as it did. -/
def fnExactWaysToPayUptoRow : OpenClaim := { program := "ytaonlhjblocfkaa", sum := "4d2921604894cae187fc30191f89ddda41fbb207252151765ef30dced9653e4a", func := "loop.example/g01366/laws.FnExactWaysToPay", spec := "fnExactWaysToPay", unfollowed := true, recurses := true, apart := false, narrowed := true }
def FnExactWaysToPayUptoSaid : Prop := fnExactWaysToPayUptoRow.holds Try.pinned (OpenSpec.upto fnExactWaysToPaySpec)

/-- 'laws.FnExactGapsUpTo', WHERE WHAT IT READS IS OF BULK AT MOST 1048576: true; the input reads as it did. -/
def fnExactGapsUpToUptoRow : OpenClaim := { program := "ytaonlhjblocfkaa", sum := "4d2921604894cae187fc30191f89ddda41fbb207252151765ef30dced9653e4a", func := "loop.example/g01366/laws.FnExactGapsUpTo", spec := "fnExactGapsUpTo", unfollowed := true, recurses := true, apart := false, narrowed := true }
def FnExactGapsUpToUptoSaid : Prop := fnExactGapsUpToUptoRow.holds Try.pinned (OpenSpec.upto fnExactGapsUpToSpec)

/-- 'laws.FnExactGreatestGap', WHERE WHAT IT READS IS OF BULK AT MOST 1048576: true; the input reads as it did. -/
def fnExactGreatestGapUptoRow : OpenClaim := { program := "ytaonlhjblocfkaa", sum := "4d2921604894cae187fc30191f89ddda41fbb207252151765ef30dced9653e4a", func := "loop.example/g01366/laws.FnExactGreatestGap", spec := "fnExactGreatestGap", unfollowed := true, recurses := true, apart := false, narrowed := true }
def FnExactGreatestGapUptoSaid : Prop := fnExactGreatestGapUptoRow.holds Try.pinned (OpenSpec.upto fnExactGreatestGapSpec)

/-- 'laws.FnExactLeastOver', WHERE WHAT IT READS IS OF BULK AT MOST 1048576: true; the input reads as it did. -/
def fnExactLeastOverUptoRow : OpenClaim := { program := "ytaonlhjblocfkaa", sum := "4d2921604894cae187fc30191f89ddda41fbb207252151765ef30dced9653e4a", func := "loop.example/g01366/laws.FnExactLeastOver", spec := "fnExactLeastOver", unfollowed := true, recurses := true, apart := false, narrowed := true }
def FnExactLeastOverUptoSaid : Prop := fnExactLeastOverUptoRow.holds Try.pinned (OpenSpec.upto fnExactLeastOverSpec)

/-- 'laws.FnExactReachOf', WHERE WHAT IT READS IS OF BULK AT MOST 1048576: true; the input reads as it did. -/
def fnExactReachOfUptoRow : OpenClaim := { program := "ytaonlhjblocfkaa", sum := "4d2921604894cae187fc30191f89ddda41fbb207252151765ef30dced9653e4a", func := "loop.example/g01366/laws.FnExactReachOf", spec := "fnExactReachOf", unfollowed := true, recurses := true, apart := false, narrowed := true }
def FnExactReachOfUptoSaid : Prop := fnExactReachOfUptoRow.holds Try.pinned (OpenSpec.upto fnExactReachOfSpec)

end Rows
end Go.Proofs.Ytaonlhjblocfkaa
