/- Each Go function that the laws of this seat come to, as a plain Lean function, and the proof that a call of it returns what that function tells; no condition but those that each theorem states. Written by a program of this session over the kit's print. -/
import Derived.Test.YtnhcdfikjfjkoaaPlawsFnExactStockValue
namespace Go.Proofs.Ytnhcdfikjfjkoaa.P
open Go.RowKit Go.Proofs.YtnhcdfikjfjkoaaW.PrintWords
/-- The pure statement of the law. -/
def laws_FnExactStockValue.Pure : Prop := ∀ (x0 : List (S58)), (x0.length ≤ 9223372036854775807 ∧ ∀ x0_ ∈ x0, ((Lit.int .i16 x0_.f0).wf = true ∧ (Lit.int .i16 x0_.f1).wf = true)) → ∃ k, laws_FnExactStockValue.f k x0 = some true
end Go.Proofs.Ytnhcdfikjfjkoaa.P
