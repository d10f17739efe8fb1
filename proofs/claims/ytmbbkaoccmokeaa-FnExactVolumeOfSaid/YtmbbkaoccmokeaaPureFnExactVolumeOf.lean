/- FnExactVolumeOf returns true at every box; no condition. -/
import Derived.Test.YtmbbkaoccmokeaaPimplVolumeOf
import Derived.Test.YtmbbkaoccmokeaaPspecVolumeOf
import Derived.Test.YtmbbkaoccmokeaaQFnExactVolumeOf
import Derived.Test.YtmbbkaoccmokeaaXBoxB
namespace Go.Proofs.Ytmbbkaoccmokeaa.Pure
open Go.RowKit Go.Proofs.Ytmbbkaoccmokeaa.P Go.Proofs.YtmbbkaoccmokeaaW.PrintWords Go.Proofs.YtmbbkaoccmokeaaW.PrintLast
set_option linter.unusedVariables false

theorem specVolume {a b c : Int} (wa : (Lit.int .i8 a).wf = true) (wb : (Lit.int .i8 b).wf = true) (wc : (Lit.int .i8 c).wf = true) :
    spec_VolumeOf.f a b c = some (if okB a b c then (wrap64 (wrap64 (a * b) * c), 0) else (0, 1)) := by
  rw [spec_VolumeOf.f, specOk wa wb wc, Option.bind_some, w8 wa, w8 wb, w8 wc]
  cases okB a b c <;> rfl
theorem implVolume {a b c : Int} (wa : (Lit.int .i8 a).wf = true) (wb : (Lit.int .i8 b).wf = true) (wc : (Lit.int .i8 c).wf = true) :
    impl_VolumeOf.f a b c = some (if okB a b c then (wrap64 (wrap64 (a * b) * c), 0) else (0, 1)) := by
  rw [impl_VolumeOf.f, implOk wa wb wc, Option.bind_some]
  cases okB a b c
  · rfl
  · rw [if_pos rfl, sidesF wa wb wc]; rfl
theorem FnExactVolumeOf : laws_FnExactVolumeOf.Pure := by
  intro x w
  obtain ⟨wa, wb, wc⟩ := w
  rw [laws_FnExactVolumeOf.f, toB, Option.bind_some, specVolume wa wb wc, Option.bind_some, Option.bind_some, implVolume wa wb wc, Option.bind_some, if_pos rfl, if_pos rfl]

end Go.Proofs.Ytmbbkaoccmokeaa.Pure
