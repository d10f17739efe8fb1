/- FnExactSameBox returns true at every two boxes; no condition. -/
import Derived.Test.YtmbbkaoccmokeaaPimplSameBox
import Derived.Test.YtmbbkaoccmokeaaPspecSameBox
import Derived.Test.YtmbbkaoccmokeaaQFnExactSameBox
import Derived.Test.YtmbbkaoccmokeaaXBoxB
namespace Go.Proofs.Ytmbbkaoccmokeaa.Pure
open Go.RowKit Go.Proofs.Ytmbbkaoccmokeaa.P Go.Proofs.YtmbbkaoccmokeaaW.PrintWords Go.Proofs.YtmbbkaoccmokeaaW.PrintLast
set_option linter.unusedVariables false

theorem FnExactSameBox : laws_FnExactSameBox.Pure := by
  intro x y wx wy
  simp only [laws_FnExactSameBox.f, laws_toBox.f, Option.bind_some, impl_SameBox.f, spec_SameBox.f]
  by_cases h0 : x.f0 = y.f0 <;> by_cases h1 : x.f1 = y.f1 <;> by_cases h2 : x.f2 = y.f2 <;> simp [h0, h1, h2]

end Go.Proofs.Ytmbbkaoccmokeaa.Pure
