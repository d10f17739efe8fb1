/- Each Go function that the laws of this seat come to, as a plain Lean function, and the proof that a call of it returns what that function tells; no condition but those that each theorem states. Written by a program of this session over the kit's print. -/
import Derived.Test.YtmbbkaoccmokeaaPlawsFnExactStringFor
namespace Go.Proofs.Ytmbbkaoccmokeaa.P
open Go.RowKit Go.Proofs.YtmbbkaoccmokeaaW.PrintWords
/-- The pure statement of the law. -/
def laws_FnExactStringFor.Pure : Prop := ∀ (x0 : S24) (x1 : Int), ((Lit.int .i8 x0.f0).wf = true ∧ (Lit.int .i8 x0.f1).wf = true ∧ (Lit.int .i8 x0.f2).wf = true) → (Lit.int .i64 x1).wf = true → ∃ k, laws_FnExactStringFor.f k x0.f0 x0.f1 x0.f2 x1 = some true
end Go.Proofs.Ytmbbkaoccmokeaa.P
