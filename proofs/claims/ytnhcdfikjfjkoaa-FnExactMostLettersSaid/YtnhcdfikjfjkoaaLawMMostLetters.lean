/- Each Go function that the laws of this seat come to, as a plain Lean function, and the proof that a call of it returns what that function tells; no condition but those that each theorem states. Written by a program of this session over the kit's print. -/
import Derived.Test.YtnhcdfikjfjkoaaRows
import Derived.Test.YtnhcdfikjfjkoaaMMostLetters6
import Derived.Test.YtnhcdfikjfjkoaaMMostLetters7
import Derived.WalkKit
import Derived.ProofKit
import Derived.OpenShut
import Derived.ShutString
import Derived.ChangeOld
import Derived.Below
import Derived.SizedLaws
namespace Go.Proofs.Ytnhcdfikjfjkoaa.fnExactMostLetters
open Go.ChangeShapes Go.WideShapes Go.ChangeAt Go.RowKit Go.Proofs.Ytnhcdfikjfjkoaa.X Go.Proofs.Ytnhcdfikjfjkoaa.P Go.Proofs.YtnhcdfikjfjkoaaW.PrintWords
open Go.ChangeMaps (open_string shut_string)
set_option linter.unusedVariables false
theorem own : ownKnob Try.prog.godebug = none := by kernel_rfl
theorem laidOut : laidOutB Try.prog = true := by kernel_rfl
instance : Inhabited S58 := ⟨z58⟩
theorem op0 : Opens Try.prog 28 (Kd.slice 58 k58) (fun x => (x.length ≤ 9223372036854775807 ∧ ∀ x0_ ∈ x, ((Lit.int .i16 x0_.f0).wf = true ∧ (Lit.int .i16 x0_.f1).wf = true))) := (Opens.slice Try.underlying28 (by kernel_rfl) (Opens.iso (fun x : S58 => (x.f0, x.f1)) (fun p => (⟨p.1, p.2⟩ : S58)) (fun _ => rfl) (Opens.pair Try.underlying58 rfl (by kernel_rfl) rfl (by kernel_rfl) (by kernel_rfl) (Opens.int Try.underlying54) (Opens.int Try.underlying54))))
theorem op1 : Opens Try.prog 22 (Kd.slice 2 (Kd.int .i64)) (fun x => (x.length ≤ 9223372036854775807 ∧ ∀ x0_ ∈ x, (Lit.int .i64 x0_).wf = true)) := (Opens.slice Try.underlying22 (by kernel_rfl) (Opens.int Try.underlying2))
set_option maxRecDepth 100000 in
theorem lifted (os : Os) (started : os.Started) (H : Type) (enc : TypeId × Value → H) :
    ReturnsInHanded {} Try.checked os 11 .any (Rows.fnExactMostLettersSpec.pre6 enc Try.prog Try.f11 Rows.fnExactMostLettersRow.domain false) (Rows.fnExactMostLettersSpec.post enc Try.prog Try.f11 false true false false) := by
  refine returnsInHanded_of_change_sized (C := Try.checked) own started (by kernel_rfl) Try.func11
    (ChangeSpec.witness6 (enc := enc) (C := Try.checked) false ⟨#[], #[.slice none 0 0, .slice none 0 0], []⟩ 8 (by kernel_rfl) (by kernel_rfl) (by kernel_rfl) (by kernel_rfl)) ?_
  intro W base args ds gs before hval0 hW hcnd hsz0 _
  have hval : ∀ (j : Nat) t v, Try.f11.params[j]? = some t → args[j]? = some v → Value.okWide Try.prog W .any base t v := hval0
  have hW' := hW
  obtain ⟨p, q, hA0, hV, rfl, hfz, hnd⟩ := hW
  have hA : DataW.TrodAll enc Try.prog W 0 (fun _ => true) true Try.f11.params.toList args.toList ds p := hA0
  rw [Try.params11] at hA hval
  obtain ⟨v0, vs0, d0, ds0, p0, q0, hargs, rfl, rfl, h0, r0⟩ := trodAll_cons hA
  obtain ⟨v1, vs1, d1, ds1, p1, q1, rfl, rfl, rfl, h1, r1⟩ := trodAll_cons r0
  obtain ⟨rfl, rfl, rfl⟩ := trodAll_nil r1
  obtain rfl : args = #[v0, v1] := by cases args; simp_all
  obtain ⟨rfl, rfl⟩ := trodVars_none hV
  have k0 := h0
  have lt0 : ∀ x ∈ p0, x.block < W.heap.size := by obtain ⟨m, hm⟩ := k0; exact DataW.trod_lt m _ _ _ hm
  obtain ⟨x0, A0, c0, rfl, hc0, hr0, w0⟩ := op0.arg Try.underlying28 (hval 0 28 v0 rfl rfl) h0
  have k1 := h1
  have lt1 : ∀ x ∈ p1, x.block < W.heap.size := by obtain ⟨m, hm⟩ := k1; exact DataW.trod_lt m _ _ _ hm
  obtain ⟨x1, A1, c1, rfl, hc1, hr1, w1⟩ := op1.arg Try.underlying22 (hval 1 22 v1 rfl rfl) h1
  clear hA0 hval0 hsz0
  obtain ⟨k, hf⟩ := Pure.FnExactMostLetters x0 x1 w0 w1
  refine (laws_FnExactMostLetters.calls k _ _ x0 _ _ x1 true W hr0 hc0 hr1 hc1 hf).mono ?_
  rintro e W' ⟨rfl, hd⟩
  have bel : Below W.heap.size W W' := hd
  exact ⟨_, rfl, _, _, _, [], _, [], hW', trodAll_mk1 (shut_bool Try.underlying4 _), (trodAll_cons_mk (Below.trod laidOut (by kernel_rfl) (of_decide_eq_true (by kernel_rfl)) k0 bel lt0) (trodAll_cons_mk (Below.trod laidOut (by kernel_rfl) (of_decide_eq_true (by kernel_rfl)) k1 bel lt1) trodAll_mk0)), rfl, bel.frame _, fun h => by cases h⟩
theorem over : Rows.fnExactMostLettersRow.holds Try.pinned (OpenSpec.ofChange Rows.fnExactMostLettersSpec) :=
  OpenClaim.holds_of_wide 11 Try.f11 rfl rfl rfl rfl rfl rfl rfl ⟨rfl, rfl, rfl, rfl, rfl⟩ rfl rfl rfl rfl rfl (by kernel_rfl) Try.func11 (by kernel_rfl)
    (of_decide_eq_true (by kernel_rfl)) (by unfold Func.isWrapper; first | (rw [if_pos (by decide +kernel)]; kernel_rfl) | (rw [if_neg (by decide +kernel)]; exact ⟨rfl, rfl⟩))
    (fun os started H enc _ => lifted os started H enc)
theorem proved : Rows.FnExactMostLettersSaid := over
#print axioms proved
end Go.Proofs.Ytnhcdfikjfjkoaa.fnExactMostLetters
namespace Go.Proofs.Ytnhcdfikjfjkoaa
/-- The row, under a short name, for the claim. -/
theorem fnExactMostLetters_holds : Rows.FnExactMostLettersSaid := fnExactMostLetters.proved
end Go.Proofs.Ytnhcdfikjfjkoaa
