/- FnExactValidValues returns true at every list of numbers: the reference and the program say the same of values; no condition. -/
import Derived.Test.YtaonlhjblocfkaaP3
import Derived.Test.YtaonlhjblocfkaaXBase
import Derived.Test.YtaonlhjblocfkaaXValues
namespace Go.Proofs.Ytaonlhjblocfkaa.Pure
open Go.RowKit Go.Proofs.Ytaonlhjblocfkaa.P Go.Proofs.YtaonlhjblocfkaaW.PrintWords Go.Proofs.YtaonlhjblocfkaaW.PrintLast
set_option linter.unusedVariables false

theorem FnExactValidValues : laws_FnExactValidValues.Pure := by
  intro l _ _ _
  by_cases hl : (l.length : Int) > 1048576
  · exact ⟨0, by rw [laws_FnExactValidValues.f, if_pos hl]⟩
  · obtain ⟨r, h1, h2, _⟩ := bothVV l (by omega)
    obtain ⟨K1, h1⟩ := EvG h1
    obtain ⟨K2, h2⟩ := EvG h2
    obtain ⟨K3, h3⟩ := EvG (toI l (by omega))
    obtain ⟨K4, h4⟩ := EvG (eqI l (by omega))
    refine ⟨K1 + K2 + K3 + K4, ?_⟩
    rw [laws_FnExactValidValues.f, if_neg hl, h3 _ (by omega), Option.bind_some, spec_ValidValues.f, h1 _ (by omega), Option.bind_some, Option.bind_some, Option.bind_some, h2 _ (by omega), Option.bind_some, if_neg (by simp), Option.bind_some, h4 _ (by omega)]
    rfl

end Go.Proofs.Ytaonlhjblocfkaa.Pure
