/- FnExactValidBox returns true at every box; no condition. -/
import Derived.Test.YtmbbkaoccmokeaaPspecValidBox
import Derived.Test.YtmbbkaoccmokeaaQFnExactValidBox
import Derived.Test.YtmbbkaoccmokeaaXBoxB
namespace Go.Proofs.Ytmbbkaoccmokeaa.Pure
open Go.RowKit Go.Proofs.Ytmbbkaoccmokeaa.P Go.Proofs.YtmbbkaoccmokeaaW.PrintWords Go.Proofs.YtmbbkaoccmokeaaW.PrintLast
set_option linter.unusedVariables false

theorem FnExactValidBox : laws_FnExactValidBox.Pure := by
  intro x w
  obtain ⟨wa, wb, wc⟩ := w
  rw [laws_FnExactValidBox.f, toB, Option.bind_some, spec_ValidBox.f, specOk wa wb wc, Option.bind_some, Option.bind_some, Option.bind_some, implOk wa wb wc, Option.bind_some]
  cases okB x.f0 x.f1 x.f2 <;> rfl

end Go.Proofs.Ytmbbkaoccmokeaa.Pure
