/- What the reference and the program say of one box: both say whether its sides are from 1 to 60; no condition but those that each theorem states. -/
import Derived.Test.YtmbbkaoccmokeaaPimplBoxsides
import Derived.Test.YtmbbkaoccmokeaaPimplValidBox
import Derived.Test.YtmbbkaoccmokeaaPimplareWithin
import Derived.Test.YtmbbkaoccmokeaaPimplwithin
import Derived.Test.YtmbbkaoccmokeaaPlawstoBox
import Derived.Test.YtmbbkaoccmokeaaPspecl00In
import Derived.Test.YtmbbkaoccmokeaaPspecl02Ok
import Derived.Test.YtmbbkaoccmokeaaXNum
namespace Go.Proofs.Ytmbbkaoccmokeaa.Pure
open Go.RowKit Go.Proofs.Ytmbbkaoccmokeaa.P Go.Proofs.YtmbbkaoccmokeaaW.PrintWords Go.Proofs.YtmbbkaoccmokeaaW.PrintLast
set_option linter.unusedVariables false
set_option linter.unusedSimpArgs false

theorem inF (a lo hi : Int) : spec_l00In.f a lo hi = some (decide (lo ≤ a) && decide (a ≤ hi)) := by
  unfold spec_l00In.f; by_cases h : lo ≤ a <;> simp [h]
theorem withinF (a lo hi : Int) : impl_within.f a lo hi = some (decide (lo ≤ a) && decide (a ≤ hi)) := by
  unfold impl_within.f; by_cases h : lo ≤ a <;> simp [h]
theorem w8 {a : Int} (w : (Lit.int .i8 a).wf = true) : wrap64 a = a := by
  obtain ⟨h0, h1⟩ := bounds_i8 w
  exact w64 (by omega) (by omega)
/-- A box is valid. -/
def okB (a b c : Int) : Bool := (decide (1 ≤ a) && decide (a ≤ 60)) && ((decide (1 ≤ b) && decide (b ≤ 60)) && (decide (1 ≤ c) && decide (c ≤ 60)))
theorem okB_iff {a b c : Int} : okB a b c = true ↔ (1 ≤ a ∧ a ≤ 60) ∧ (1 ≤ b ∧ b ≤ 60) ∧ (1 ≤ c ∧ c ≤ 60) := by
  simp [okB, and_assoc]
theorem specOk {a b c : Int} (wa : (Lit.int .i8 a).wf = true) (wb : (Lit.int .i8 b).wf = true) (wc : (Lit.int .i8 c).wf = true) : spec_l02Ok.f a b c = some (okB a b c) := by
  unfold spec_l02Ok.f okB
  rw [inF, inF, inF, w8 wa, w8 wb, w8 wc, Option.bind_some]
  cases (decide (1 ≤ a) && decide (a ≤ 60)) <;> cases (decide (1 ≤ b) && decide (b ≤ 60)) <;> rfl
theorem sidesF {a b c : Int} (wa : (Lit.int .i8 a).wf = true) (wb : (Lit.int .i8 b).wf = true) (wc : (Lit.int .i8 c).wf = true) : impl_Box_sides.f a b c = some [a, b, c] := by
  unfold impl_Box_sides.f; rw [w8 wa, w8 wb, w8 wc]
theorem implOk {a b c : Int} (wa : (Lit.int .i8 a).wf = true) (wb : (Lit.int .i8 b).wf = true) (wc : (Lit.int .i8 c).wf = true) : impl_ValidBox.f a b c = some (okB a b c) := by
  unfold impl_ValidBox.f impl_areWithin.f
  rw [sidesF wa wb wc]
  simp only [Option.bind_some, List.all_cons, List.all_nil, Bool.and_true, okB]
theorem toB (a b c : Int) : laws_toBox.f a b c = some (a, b, c) := rfl

end Go.Proofs.Ytmbbkaoccmokeaa.Pure
