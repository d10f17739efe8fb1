/- Each Go function that the laws of this seat come to, as a plain Lean function, and the proof that a call of it returns what that function tells; no condition but those that each theorem states. Written by a program of this session over the kit's print. -/
import Derived.Test.YtipdmnibjkdpcaaRows
import Derived.Test.YtipdmnibjkdpcaaMFewestPiles6
import Derived.Test.YtipdmnibjkdpcaaMFewestPiles7
import Derived.WalkKit
import Derived.ProofKit
import Derived.OpenShut
import Derived.ShutString
import Derived.ChangeOld
import Derived.Below
import Derived.SizedLaws
namespace Go.Proofs.Ytipdmnibjkdpcaa.fnExactFewestPiles
open Go.ChangeShapes Go.WideShapes Go.ChangeAt Go.RowKit Go.Proofs.Ytipdmnibjkdpcaa.X Go.Proofs.Ytipdmnibjkdpcaa.P Go.Proofs.YtipdmnibjkdpcaaW.PrintWords
open Go.ChangeMaps (open_string shut_string)
set_option linter.unusedVariables false
theorem own : ownKnob Try.prog.godebug = none := by kernel_rfl
theorem laidOut : laidOutB Try.prog = true := by kernel_rfl
instance : Inhabited S66 := ⟨z66⟩
theorem op0 : Opens Try.prog 31 (Kd.slice 66 k66) (fun x => (x.length ≤ 9223372036854775807 ∧ ∀ x0_ ∈ x, ((Lit.int .i8 x0_.f0).wf = true ∧ (Lit.int .i8 x0_.f1).wf = true ∧ (Lit.int .i8 x0_.f2).wf = true))) := (Opens.slice Try.underlying31 (by kernel_rfl) (Opens.iso (fun x : S66 => (x.f0, x.f1, x.f2)) (fun p => (⟨p.1, p.2.1, p.2.2⟩ : S66)) (fun _ => rfl) (Opens.triple Try.underlying66 rfl (by kernel_rfl) rfl (by kernel_rfl) rfl (by kernel_rfl) (by kernel_rfl) (Opens.int Try.underlying62) (Opens.int Try.underlying62) (Opens.int Try.underlying62))))
set_option maxRecDepth 100000 in
theorem lifted (os : Os) (started : os.Started) (H : Type) (enc : TypeId × Value → H) :
    ReturnsInHanded {} Try.checked os 7 .any (Rows.fnExactFewestPilesSpec.pre6 enc Try.prog Try.f7 Rows.fnExactFewestPilesRow.domain false) (Rows.fnExactFewestPilesSpec.post enc Try.prog Try.f7 false true false false) := by
  refine returnsInHanded_of_change_sized (C := Try.checked) own started (by kernel_rfl) Try.func7
    (ChangeSpec.witness6 (enc := enc) (C := Try.checked) false ⟨#[], #[.slice none 0 0], []⟩ 8 (by kernel_rfl) (by kernel_rfl) (by kernel_rfl) (by kernel_rfl)) ?_
  intro W base args ds gs before hval0 hW hcnd hsz0 _
  have hval : ∀ (j : Nat) t v, Try.f7.params[j]? = some t → args[j]? = some v → Value.okWide Try.prog W .any base t v := hval0
  have hW' := hW
  obtain ⟨p, q, hA0, hV, rfl, hfz, hnd⟩ := hW
  have hA : DataW.TrodAll enc Try.prog W 0 (fun _ => true) true Try.f7.params.toList args.toList ds p := hA0
  rw [Try.params7] at hA hval
  obtain ⟨v0, vs0, d0, ds0, p0, q0, hargs, rfl, rfl, h0, r0⟩ := trodAll_cons hA
  obtain ⟨rfl, rfl, rfl⟩ := trodAll_nil r0
  obtain rfl : args = #[v0] := by cases args; simp_all
  obtain ⟨rfl, rfl⟩ := trodVars_none hV
  have k0 := h0
  have lt0 : ∀ x ∈ p0, x.block < W.heap.size := by obtain ⟨m, hm⟩ := k0; exact DataW.trod_lt m _ _ _ hm
  obtain ⟨x0, A0, c0, rfl, hc0, hr0, w0⟩ := op0.arg Try.underlying31 (hval 0 31 v0 rfl rfl) h0
  clear hA0 hval0 hsz0
  obtain ⟨k, hf⟩ := Pure.FnExactFewestPiles x0 w0
  refine (laws_FnExactFewestPiles.calls k _ _ x0 true W hr0 hc0 hf).mono ?_
  rintro e W' ⟨rfl, hd⟩
  have bel : Below W.heap.size W W' := hd
  exact ⟨_, rfl, _, _, _, [], _, [], hW', trodAll_mk1 (shut_bool Try.underlying4 _), (trodAll_cons_mk (Below.trod laidOut (by kernel_rfl) (of_decide_eq_true (by kernel_rfl)) k0 bel lt0) trodAll_mk0), rfl, bel.frame _, fun h => by cases h⟩
theorem over : Rows.fnExactFewestPilesRow.holds Try.pinned (OpenSpec.ofChange Rows.fnExactFewestPilesSpec) :=
  OpenClaim.holds_of_wide 7 Try.f7 rfl rfl rfl rfl rfl rfl rfl ⟨rfl, rfl, rfl, rfl, rfl⟩ rfl rfl rfl rfl rfl (by kernel_rfl) Try.func7 (by kernel_rfl)
    (of_decide_eq_true (by kernel_rfl)) (by unfold Func.isWrapper; first | (rw [if_pos (by decide +kernel)]; kernel_rfl) | (rw [if_neg (by decide +kernel)]; exact ⟨rfl, rfl⟩))
    (fun os started H enc _ => lifted os started H enc)
theorem proved : Rows.FnExactFewestPilesSaid := over
#print axioms proved
end Go.Proofs.Ytipdmnibjkdpcaa.fnExactFewestPiles
namespace Go.Proofs.Ytipdmnibjkdpcaa
/-- The row, under a short name, for the claim. -/
theorem fnExactFewestPiles_holds : Rows.FnExactFewestPilesSaid := fnExactFewestPiles.proved
end Go.Proofs.Ytipdmnibjkdpcaa
