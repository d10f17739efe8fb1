/- FnExactCodeName returns true at every code: both functions choose the same name from the same list, or none; no condition. -/
import Derived.Test.YtaonlhjblocfkaaP1
namespace Go.Proofs.Ytaonlhjblocfkaa.Pure
open Go.RowKit Go.Proofs.Ytaonlhjblocfkaa.P Go.Proofs.YtaonlhjblocfkaaW.PrintWords Go.Proofs.YtaonlhjblocfkaaW.PrintLast

theorem FnExactCodeName : laws_FnExactCodeName.Pure := by
  intro a0 _
  unfold laws_FnExactCodeName.f spec_CodeName.f impl_CodeName.f spec_l00In.f impl_within.f impl_size_string.f
  simp only [Option.bind_some, List.length_cons, List.length_nil]
  have hw : wrap64 8 = 8 := by unfold wrap64; omega
  by_cases h0 : 0 ≤ a0
  · by_cases h8 : a0 ≤ 8
    · have h9 : a0 < 9 := by omega
      simp [h0, h8, h9, hw]
    · simp [h0, h8, hw]
  · simp [h0]

end Go.Proofs.Ytaonlhjblocfkaa.Pure
