/- The Go functions that the law FnExactTakeFrom comes to, as plain Lean functions, the proofs that calls of them return what those tell, and the plain lemmas on them; no condition but those that each theorem states. -/
import Derived.Test.YtnhcdfikjfjkoaaMTakeFrom1
import Derived.Test.YtnhcdfikjfjkoaaMTakeFrom2
import Derived.OpenShut
import Derived.Test.YtnhcdfikjfjkoaaRows
import Derived.Test.YtnhcdfikjfjkoaaWMore
import Derived.Deep.Slices
import Derived.WalkKit
import Derived.ProofKit
import Derived.ShutString
import Derived.ChangeOld
import Derived.Below
import Derived.SizedLaws
import Derived.ChangeArms
import Derived.Carry
namespace Go.Proofs.Ytnhcdfikjfjkoaa.P
open Go.RowKit Go.Proofs.YtnhcdfikjfjkoaaW.PrintWords Go.Proofs.YtnhcdfikjfjkoaaW.PrintLast Go.Proofs.YtnhcdfikjfjkoaaW.PrintMore
attribute [local go_sem] max2_int min2_int max_two min_two max_three min_three max_four min_four   -- for this text's walks alone
set_option linter.unusedVariables false
set_option linter.unusedSimpArgs false

/-! ### impl_ValidValues: function 75 -/
def impl_ValidValues.f (k : Nat) (l0 : List Int) : Option (Bool) := (impl_size_int64.f l0).bind fun t144 => ((impl_within.f t144 1 8).bind fun t145 => (if t145 = true then ((impl_areWithin.f l0 1 500).bind fun t146 => (if t146 = true then ((impl_isRising.f k l0).bind fun t147 => (some t147)) else (some false))) else (some false)))
theorem impl_ValidValues.mono : ∀ a0 k, LeO (impl_ValidValues.f k a0) (impl_ValidValues.f (k + 1) a0) := by
  intro a0 k
  unfold impl_ValidValues.f
  repeat' first
      | (with_reducible exact impl_isRising.mono _ _)
      | (with_reducible exact LeO.refl _)
      | (with_reducible exact LeO.none _)
      | (with_reducible refine LeO.ite ?_ ?_)
      | (with_reducible refine LeO.bind ?_ (fun _ => ?_))
      | exact impl_isRising.mono _ _
      | exact LeO.none _
      | refine LeO.ite ?_ ?_
      | refine LeO.bind ?_ (fun _ => ?_)
set_option maxHeartbeats 8000000 in
set_option maxRecDepth 100000 in
theorem impl_ValidValues.calls (k : Nat) (A0 : Option Addr) (c0 : Nat) (l0 : List Int) (r : Bool) (w : World) (hr0 : Kd.C (Kd.int .i64) w A0 l0.length l0) (hc0 : l0.length ≤ c0) (h : impl_ValidValues.f k l0 = some r) :
    Calls Try.prog 75 #[.slice A0 l0.length c0] w fun e w' => e = .returned (.bool r) ∧ Below w.heap.size w w' := by
  have HR0 := Aside0.mk hr0
  have HC0 := Aside0.mk hc0
  clear hr0 hc0
  have HB := Aside0.mk (Below.refl w.heap.size w)
  have H : ((impl_size_int64.f l0).bind fun t144 => ((impl_within.f t144 1 8).bind fun t145 => (if t145 = true then ((impl_areWithin.f l0 1 500).bind fun t146 => (if t146 = true then ((impl_isRising.f k l0).bind fun t147 => (some t147)) else (some false))) else (some false)))) = some r := h
  clear h
  replace H := Option.bind_eq_some_iff.mp H
  obtain ⟨t144, A20, H⟩ := H
  replace H : ((impl_within.f t144 1 8).bind fun t145 => (if t145 = true then ((impl_areWithin.f l0 1 500).bind fun t146 => (if t146 = true then ((impl_isRising.f k l0).bind fun t147 => (some t147)) else (some false))) else (some false))) = some r := H
  have A2 := Aside0.mk A20
  clear A20
  replace H := Option.bind_eq_some_iff.mp H
  obtain ⟨t145, A30, H⟩ := H
  replace H : (if t145 = true then ((impl_areWithin.f l0 1 500).bind fun t146 => (if t146 = true then ((impl_isRising.f k l0).bind fun t147 => (some t147)) else (some false))) else (some false)) = some r := H
  have A3 := Aside0.mk A30
  clear A30
  by_cases c4 : t145 = true
  · subst c4
    have H1 : ((impl_areWithin.f l0 1 500).bind fun t146 => (if t146 = true then ((impl_isRising.f k l0).bind fun t147 => (some t147)) else (some false))) = some r := by rw [if_pos rfl] at H; exact H
    clear H
    have H := H1
    clear H1
    replace H := Option.bind_eq_some_iff.mp H
    obtain ⟨t146, A50, H⟩ := H
    replace H : (if t146 = true then ((impl_isRising.f k l0).bind fun t147 => (some t147)) else (some false)) = some r := H
    have A5 := Aside0.mk A50
    clear A50
    by_cases c6 : t146 = true
    · subst c6
      have H1 : ((impl_isRising.f k l0).bind fun t147 => (some t147)) = some r := by rw [if_pos rfl] at H; exact H
      clear H
      have H := H1
      clear H1
      replace H := Option.bind_eq_some_iff.mp H
      obtain ⟨t147, A70, H⟩ := H
      replace H : (some t147) = some r := H
      have A7 := Aside0.mk A70
      clear A70
      obtain rfl := Option.some.inj H
      go_enter Try.func75, Try.ntmps75
      go_wp2_with (first | ((with_reducible refine gate_callee (f := 85) rfl ?_); refine goesL_ (some 4) rfl rfl Try.func85 (by kernel_rfl) rfl #[.slice A0 l0.length c0] rfl (by (try simp only [List.map_toArray, List.map_cons, List.map_nil]); first | done | rfl | (simp only [List.length_drop, List.length_take]; rfl)) ?_; (with_reducible refine (impl_size_int64.calls _ _ l0 t144 _ ?side1 ?side2 A2.out).mono ?_); (case side1 => repeat (first | exact HR0.out | (with_reducible refine Kd.C_alloc ?_ _) | (with_reducible refine Kd.C_drewN ?_ _) | (with_reducible refine Kd.C_drew ?_))); (case side2 => exact HC0.out); rintro e w' ⟨rfl, ⟨nd, rfl⟩⟩; refine ⟨_, rfl, ?_⟩) | ((with_reducible refine gate_callee (f := 77) rfl ?_); refine goesL_ (some 5) rfl rfl Try.func77 (by kernel_rfl) rfl #[.int .i64 t144, .int .i64 1, .int .i64 8] rfl (by (try simp only [List.map_toArray, List.map_cons, List.map_nil]); first | done | rfl | (simp only [List.length_drop, List.length_take]; rfl)) ?_; (with_reducible refine (impl_within.calls t144 1 8 true _ A3.out).mono ?_); rintro e w' ⟨rfl, ⟨nd, rfl⟩⟩; refine ⟨_, rfl, ?_⟩) | (go_at_call 50; (with_reducible refine (impl_areWithin.calls _ _ l0 1 500 true _ ?side1 ?side2 A5.out).mono ?_); (case side1 => repeat (first | exact HR0.out | (with_reducible refine Kd.C_alloc ?_ _) | (with_reducible refine Kd.C_drewN ?_ _) | (with_reducible refine Kd.C_drew ?_))); (case side2 => exact HC0.out); rintro e w8 ⟨rfl, hb⟩; have n0_ := Aside0.mk (below_step (by repeat (first | (with_reducible first | exact HB.out | apply below_alloc | apply pw_below_drewN | apply below_drew1) | exact HB.out)) hb); clear HB; have HB := n0_; clear n0_; (try clear hb); (try clear hb2); (try clear hk); (try clear hi)) | (go_at_call 51; (with_reducible refine (impl_isRising.calls k _ _ l0 t147 _ ?side1 ?side2 A7.out).mono ?_); (case side1 => repeat (first | exact (Kd.C_below HR0.out HB.out) | (with_reducible refine Kd.C_alloc ?_ _) | (with_reducible refine Kd.C_drewN ?_ _) | (with_reducible refine Kd.C_drew ?_))); (case side2 => exact HC0.out); rintro e w' ⟨rfl, ⟨nd, rfl⟩⟩))
      go_ret
      exact ⟨by first | rfl | (simp [errW_none, errW_some] <;> rfl) | (simp [*, errW_none, errW_some] <;> rfl), by repeat (first | (with_reducible first | exact HB.out | apply below_alloc | apply pw_below_drewN | apply below_drew1) | exact HB.out)⟩
    · replace c6 := Bool.eq_false_iff.mpr c6
      subst c6
      have H1 : (some false) = some r := by rw [if_neg (show ¬ (false = true) by decide)] at H; exact H
      clear H
      have H := H1
      clear H1
      obtain rfl := Option.some.inj H
      go_enter Try.func75, Try.ntmps75
      go_wp2_with (first | ((with_reducible refine gate_callee (f := 85) rfl ?_); refine goesL_ (some 4) rfl rfl Try.func85 (by kernel_rfl) rfl #[.slice A0 l0.length c0] rfl (by (try simp only [List.map_toArray, List.map_cons, List.map_nil]); first | done | rfl | (simp only [List.length_drop, List.length_take]; rfl)) ?_; (with_reducible refine (impl_size_int64.calls _ _ l0 t144 _ ?side1 ?side2 A2.out).mono ?_); (case side1 => repeat (first | exact HR0.out | (with_reducible refine Kd.C_alloc ?_ _) | (with_reducible refine Kd.C_drewN ?_ _) | (with_reducible refine Kd.C_drew ?_))); (case side2 => exact HC0.out); rintro e w' ⟨rfl, ⟨nd, rfl⟩⟩; refine ⟨_, rfl, ?_⟩) | ((with_reducible refine gate_callee (f := 77) rfl ?_); refine goesL_ (some 5) rfl rfl Try.func77 (by kernel_rfl) rfl #[.int .i64 t144, .int .i64 1, .int .i64 8] rfl (by (try simp only [List.map_toArray, List.map_cons, List.map_nil]); first | done | rfl | (simp only [List.length_drop, List.length_take]; rfl)) ?_; (with_reducible refine (impl_within.calls t144 1 8 true _ A3.out).mono ?_); rintro e w' ⟨rfl, ⟨nd, rfl⟩⟩; refine ⟨_, rfl, ?_⟩) | (go_at_call 50; (with_reducible refine (impl_areWithin.calls _ _ l0 1 500 false _ ?side1 ?side2 A5.out).mono ?_); (case side1 => repeat (first | exact HR0.out | (with_reducible refine Kd.C_alloc ?_ _) | (with_reducible refine Kd.C_drewN ?_ _) | (with_reducible refine Kd.C_drew ?_))); (case side2 => exact HC0.out); rintro e w9 ⟨rfl, hb⟩; have n0_ := Aside0.mk (below_step (by repeat (first | (with_reducible first | exact HB.out | apply below_alloc | apply pw_below_drewN | apply below_drew1) | exact HB.out)) hb); clear HB; have HB := n0_; clear n0_; (try clear hb); (try clear hb2); (try clear hk); (try clear hi)))
      go_ret
      exact ⟨by first | rfl | (simp [errW_none, errW_some] <;> rfl) | (simp [*, errW_none, errW_some] <;> rfl), by repeat (first | (with_reducible first | exact HB.out | apply below_alloc | apply pw_below_drewN | apply below_drew1) | exact HB.out)⟩
  · replace c4 := Bool.eq_false_iff.mpr c4
    subst c4
    have H1 : (some false) = some r := by rw [if_neg (show ¬ (false = true) by decide)] at H; exact H
    clear H
    have H := H1
    clear H1
    obtain rfl := Option.some.inj H
    go_enter Try.func75, Try.ntmps75
    go_wp2_with (first | ((with_reducible refine gate_callee (f := 85) rfl ?_); refine goesL_ (some 4) rfl rfl Try.func85 (by kernel_rfl) rfl #[.slice A0 l0.length c0] rfl (by (try simp only [List.map_toArray, List.map_cons, List.map_nil]); first | done | rfl | (simp only [List.length_drop, List.length_take]; rfl)) ?_; (with_reducible refine (impl_size_int64.calls _ _ l0 t144 _ ?side1 ?side2 A2.out).mono ?_); (case side1 => repeat (first | exact HR0.out | (with_reducible refine Kd.C_alloc ?_ _) | (with_reducible refine Kd.C_drewN ?_ _) | (with_reducible refine Kd.C_drew ?_))); (case side2 => exact HC0.out); rintro e w' ⟨rfl, ⟨nd, rfl⟩⟩; refine ⟨_, rfl, ?_⟩) | ((with_reducible refine gate_callee (f := 77) rfl ?_); refine goesL_ (some 5) rfl rfl Try.func77 (by kernel_rfl) rfl #[.int .i64 t144, .int .i64 1, .int .i64 8] rfl (by (try simp only [List.map_toArray, List.map_cons, List.map_nil]); first | done | rfl | (simp only [List.length_drop, List.length_take]; rfl)) ?_; (with_reducible refine (impl_within.calls t144 1 8 false _ A3.out).mono ?_); rintro e w' ⟨rfl, ⟨nd, rfl⟩⟩; refine ⟨_, rfl, ?_⟩))
    go_ret
    exact ⟨by first | rfl | (simp [errW_none, errW_some] <;> rfl) | (simp [*, errW_none, errW_some] <;> rfl), by repeat (first | (with_reducible first | exact HB.out | apply below_alloc | apply pw_below_drewN | apply below_drew1) | exact HB.out)⟩

end Go.Proofs.Ytnhcdfikjfjkoaa.P

namespace Go.Proofs.Ytnhcdfikjfjkoaa.P
open Go.RowKit Go.Proofs.YtnhcdfikjfjkoaaW.PrintWords Go.Proofs.YtnhcdfikjfjkoaaW.PrintLast Go.Proofs.YtnhcdfikjfjkoaaW.PrintMore
attribute [local go_sem] max2_int min2_int max_two min_two max_three min_three max_four min_four   -- for this text's walks alone
set_option linter.unusedVariables false
set_option linter.unusedSimpArgs false

/-! ### impl_unless: function 76 -/
def impl_unless.f (a0 : Bool) (a1 : Int) : Option (Int) := if a0 = true then (some 0) else (some a1)
set_option maxHeartbeats 8000000 in
set_option maxRecDepth 100000 in
theorem impl_unless.calls (a0 : Bool) (a1 : Int) (r : Int) (w : World) (h : impl_unless.f a0 a1 = some r) :
    Calls Try.prog 76 #[.bool a0, .int .i64 a1] w fun e w' => e = .returned (.int .i64 r) ∧ Drawn0 w w' := by
  have H : (if a0 = true then (some 0) else (some a1)) = some r := h
  clear h
  by_cases c3 : a0 = true
  · subst c3
    have H1 : (some 0) = some r := by rw [if_pos rfl] at H; exact H
    clear H
    have H := H1
    clear H1
    obtain rfl := Option.some.inj H
    go_enter Try.func76, Try.ntmps76
    go_wp2
    go_ret
    exact ⟨by first | rfl | (simp; done) | (simp [*]; done), by repeat (first | exact Drawn0.refl _ | apply Drawn0.step)⟩
  · replace c3 := Bool.eq_false_iff.mpr c3
    subst c3
    have H1 : (some a1) = some r := by rw [if_neg (show ¬ (false = true) by decide)] at H; exact H
    clear H
    have H := H1
    clear H1
    obtain rfl := Option.some.inj H
    go_enter Try.func76, Try.ntmps76
    go_wp2
    go_ret
    exact ⟨by first | rfl | (simp; done) | (simp [*]; done), by repeat (first | exact Drawn0.refl _ | apply Drawn0.step)⟩

end Go.Proofs.Ytnhcdfikjfjkoaa.P

namespace Go.Proofs.Ytnhcdfikjfjkoaa.P
open Go.RowKit Go.Proofs.YtnhcdfikjfjkoaaW.PrintWords Go.Proofs.YtnhcdfikjfjkoaaW.PrintLast Go.Proofs.YtnhcdfikjfjkoaaW.PrintMore
attribute [local go_sem] max2_int min2_int max_two min_two max_three min_three max_four min_four   -- for this text's walks alone
set_option linter.unusedVariables false
set_option linter.unusedSimpArgs false

/-! ### impl_valuesCode: function 43 -/
def impl_valuesCode.f (k : Nat) (l0 : List Int) (a1 : Int) (a2 : Int) : Option (Int) := (impl_ValidValues.f k l0).bind fun t148 => (if t148 = true then ((impl_within.f a1 0 a2).bind fun t149 => ((impl_unless.f t149 2).bind fun t150 => (some t150))) else (some 1))
theorem impl_valuesCode.mono : ∀ a0 a1 a2 k, LeO (impl_valuesCode.f k a0 a1 a2) (impl_valuesCode.f (k + 1) a0 a1 a2) := by
  intro a0 a1 a2 k
  unfold impl_valuesCode.f
  repeat' first
      | (with_reducible exact impl_ValidValues.mono _ _)
      | (with_reducible exact LeO.refl _)
      | (with_reducible exact LeO.none _)
      | (with_reducible refine LeO.ite ?_ ?_)
      | (with_reducible refine LeO.bind ?_ (fun _ => ?_))
      | exact impl_ValidValues.mono _ _
      | exact LeO.none _
      | refine LeO.ite ?_ ?_
      | refine LeO.bind ?_ (fun _ => ?_)
set_option maxHeartbeats 8000000 in
set_option maxRecDepth 100000 in
theorem impl_valuesCode.calls (k : Nat) (A0 : Option Addr) (c0 : Nat) (l0 : List Int) (a1 : Int) (a2 : Int) (r : Int) (w : World) (hr0 : Kd.C (Kd.int .i64) w A0 l0.length l0) (hc0 : l0.length ≤ c0) (h : impl_valuesCode.f k l0 a1 a2 = some r) :
    Calls Try.prog 43 #[.slice A0 l0.length c0, .int .i64 a1, .int .i64 a2] w fun e w' => e = .returned (.int .i64 r) ∧ Below w.heap.size w w' := by
  have HR0 := Aside0.mk hr0
  have HC0 := Aside0.mk hc0
  clear hr0 hc0
  have HB := Aside0.mk (Below.refl w.heap.size w)
  have H : ((impl_ValidValues.f k l0).bind fun t148 => (if t148 = true then ((impl_within.f a1 0 a2).bind fun t149 => ((impl_unless.f t149 2).bind fun t150 => (some t150))) else (some 1))) = some r := h
  clear h
  replace H := Option.bind_eq_some_iff.mp H
  obtain ⟨t148, A40, H⟩ := H
  replace H : (if t148 = true then ((impl_within.f a1 0 a2).bind fun t149 => ((impl_unless.f t149 2).bind fun t150 => (some t150))) else (some 1)) = some r := H
  have A4 := Aside0.mk A40
  clear A40
  by_cases c5 : t148 = true
  · subst c5
    have H1 : ((impl_within.f a1 0 a2).bind fun t149 => ((impl_unless.f t149 2).bind fun t150 => (some t150))) = some r := by rw [if_pos rfl] at H; exact H
    clear H
    have H := H1
    clear H1
    replace H := Option.bind_eq_some_iff.mp H
    obtain ⟨t149, A60, H⟩ := H
    replace H : ((impl_unless.f t149 2).bind fun t150 => (some t150)) = some r := H
    have A6 := Aside0.mk A60
    clear A60
    replace H := Option.bind_eq_some_iff.mp H
    obtain ⟨t150, A70, H⟩ := H
    replace H : (some t150) = some r := H
    have A7 := Aside0.mk A70
    clear A70
    obtain rfl := Option.some.inj H
    go_enter Try.func43, Try.ntmps43
    go_wp2_with (first | ((with_reducible refine gate_callee (f := 75) rfl ?_); refine goesL_ (some 8) rfl rfl Try.func75 (by kernel_rfl) rfl #[.slice A0 l0.length c0] rfl (by (try simp only [List.map_toArray, List.map_cons, List.map_nil]); first | done | rfl | (simp only [List.length_drop, List.length_take]; rfl)) ?_; (with_reducible refine (impl_ValidValues.calls k _ _ l0 true _ ?side1 ?side2 A4.out).mono ?_); (case side1 => repeat (first | exact HR0.out | (with_reducible refine Kd.C_alloc ?_ _) | (with_reducible refine Kd.C_drewN ?_ _) | (with_reducible refine Kd.C_drew ?_))); (case side2 => exact HC0.out); rintro e w8 ⟨rfl, hb⟩; refine ⟨_, rfl, ?_⟩; have n0_ := Aside0.mk (below_step (by repeat (first | (with_reducible first | exact HB.out | apply below_alloc | apply pw_below_drewN | apply below_drew1) | exact HB.out)) hb); clear HB; have HB := n0_; clear n0_; (try clear hb); (try clear hb2); (try clear hk); (try clear hi)) | ((with_reducible refine gate_callee (f := 77) rfl ?_); refine goesL_ (some 12) rfl rfl Try.func77 (by kernel_rfl) rfl #[.int .i64 a1, .int .i64 0, .int .i64 a2] rfl (by (try simp only [List.map_toArray, List.map_cons, List.map_nil]); first | done | rfl | (simp only [List.length_drop, List.length_take]; rfl)) ?_; (with_reducible refine (impl_within.calls a1 0 a2 t149 _ A6.out).mono ?_); rintro e w' ⟨rfl, ⟨nd, rfl⟩⟩; refine ⟨_, rfl, ?_⟩) | ((with_reducible refine gate_callee (f := 76) rfl ?_); refine goesL_ (some 13) rfl rfl Try.func76 (by kernel_rfl) rfl #[.bool t149, .int .i64 2] rfl (by (try simp only [List.map_toArray, List.map_cons, List.map_nil]); first | done | rfl | (simp only [List.length_drop, List.length_take]; rfl)) ?_; (with_reducible refine (impl_unless.calls t149 2 t150 _ A7.out).mono ?_); rintro e w' ⟨rfl, ⟨nd, rfl⟩⟩; refine ⟨_, rfl, ?_⟩))
    go_ret
    exact ⟨by first | rfl | (simp [errW_none, errW_some] <;> rfl) | (simp [*, errW_none, errW_some] <;> rfl), by repeat (first | (with_reducible first | exact HB.out | apply below_alloc | apply pw_below_drewN | apply below_drew1) | exact HB.out)⟩
  · replace c5 := Bool.eq_false_iff.mpr c5
    subst c5
    have H1 : (some 1) = some r := by rw [if_neg (show ¬ (false = true) by decide)] at H; exact H
    clear H
    have H := H1
    clear H1
    obtain rfl := Option.some.inj H
    go_enter Try.func43, Try.ntmps43
    go_wp2_with (first | ((with_reducible refine gate_callee (f := 75) rfl ?_); refine goesL_ (some 8) rfl rfl Try.func75 (by kernel_rfl) rfl #[.slice A0 l0.length c0] rfl (by (try simp only [List.map_toArray, List.map_cons, List.map_nil]); first | done | rfl | (simp only [List.length_drop, List.length_take]; rfl)) ?_; (with_reducible refine (impl_ValidValues.calls k _ _ l0 false _ ?side1 ?side2 A4.out).mono ?_); (case side1 => repeat (first | exact HR0.out | (with_reducible refine Kd.C_alloc ?_ _) | (with_reducible refine Kd.C_drewN ?_ _) | (with_reducible refine Kd.C_drew ?_))); (case side2 => exact HC0.out); rintro e w9 ⟨rfl, hb⟩; refine ⟨_, rfl, ?_⟩; have n0_ := Aside0.mk (below_step (by repeat (first | (with_reducible first | exact HB.out | apply below_alloc | apply pw_below_drewN | apply below_drew1) | exact HB.out)) hb); clear HB; have HB := n0_; clear n0_; (try clear hb); (try clear hb2); (try clear hk); (try clear hi)))
    go_ret
    exact ⟨by first | rfl | (simp [errW_none, errW_some] <;> rfl) | (simp [*, errW_none, errW_some] <;> rfl), by repeat (first | (with_reducible first | exact HB.out | apply below_alloc | apply pw_below_drewN | apply below_drew1) | exact HB.out)⟩

end Go.Proofs.Ytnhcdfikjfjkoaa.P

namespace Go.Proofs.Ytnhcdfikjfjkoaa.P
open Go.RowKit Go.Proofs.YtnhcdfikjfjkoaaW.PrintWords Go.Proofs.YtnhcdfikjfjkoaaW.PrintLast Go.Proofs.YtnhcdfikjfjkoaaW.PrintMore
attribute [local go_sem] max2_int min2_int max_two min_two max_three min_three max_four min_four   -- for this text's walks alone
set_option linter.unusedVariables false
set_option linter.unusedSimpArgs false

/-! ### laws_heldInt64S: function 29 -/
def laws_heldInt64S.l0 : Nat → List Int → Int → Int → Option (Int)
  | 0, _, _, _ => none
  | k + 1, x0, x1, x5 => if x5 < (x0.length : Int) then (if 0 ≤ x5 then (if (rd x0 x5) = x1 then (laws_heldInt64S.l0 k x0 (wrap64 (x1 + 1)) (wrap64 (x5 + 1))) else (some (-1))) else (none)) else (some x1)
def laws_heldInt64S.f (k : Nat) (l0 : List Int) (a1 : Int) : Option (Int) := laws_heldInt64S.l0 k l0 a1 0
theorem laws_heldInt64S.mono_l : ∀ k, (∀ y0 y1 y2, LeO (laws_heldInt64S.l0 k y0 y1 y2) (laws_heldInt64S.l0 (k + 1) y0 y1 y2))
  | 0 => fun _ _ _ r h => by simp [laws_heldInt64S.l0] at h
  | k + 1 => by
    have ih0 := laws_heldInt64S.mono_l k
    · intro y0 y1 y2
      unfold laws_heldInt64S.l0
      repeat' first
      | (with_reducible exact ih0 _ _ _)
      | (with_reducible exact LeO.refl _)
      | (with_reducible exact LeO.none _)
      | (with_reducible refine LeO.ite ?_ ?_)
      | (with_reducible refine LeO.bind ?_ (fun _ => ?_))
      | exact ih0 _ _ _
      | exact LeO.none _
      | refine LeO.ite ?_ ?_
      | refine LeO.bind ?_ (fun _ => ?_)
theorem laws_heldInt64S.mono : ∀ a0 a1 k, LeO (laws_heldInt64S.f k a0 a1) (laws_heldInt64S.f (k + 1) a0 a1) := by
  intro a0 a1 k
  have ih0 := laws_heldInt64S.mono_l k
  unfold laws_heldInt64S.f
  repeat' first
      | (with_reducible exact ih0 _ _ _)
      | (with_reducible exact LeO.refl _)
      | (with_reducible exact LeO.none _)
      | (with_reducible refine LeO.ite ?_ ?_)
      | (with_reducible refine LeO.bind ?_ (fun _ => ?_))
      | exact ih0 _ _ _
      | exact LeO.none _
      | refine LeO.ite ?_ ?_
      | refine LeO.bind ?_ (fun _ => ?_)
set_option maxHeartbeats 8000000 in
set_option maxRecDepth 100000 in
theorem laws_heldInt64S.calls (k : Nat) (A0 : Option Addr) (c0 : Nat) (l0 : List Int) (a1 : Int) (r : Int) (w : World) (hr0 : Kd.C (Kd.int .i64) w A0 l0.length l0) (hc0 : l0.length ≤ c0) (h : laws_heldInt64S.f k l0 a1 = some r) :
    Calls Try.prog 29 #[.slice A0 l0.length c0, .int .i64 a1] w fun e w' => e = .returned (.int .i64 r) ∧ Drawn0 w w' := by
  have HR0 := Aside0.mk hr0
  have HC0 := Aside0.mk hc0
  clear hr0 hc0
  have H : (laws_heldInt64S.l0 k l0 a1 0) = some r := h
  clear h
  have H' := Aside0.mk H
  clear H
  go_enter Try.func29, Try.ntmps29
  go_wp2
  go_loopg [1, 5] k (fun kq v1 v5 w' => ∃ (x1_1 : Int) (x5_1 : Int), v1 = .int .i64 x1_1 ∧ v5 = .int .i64 x5_1 ∧ Aside0 (laws_heldInt64S.l0 kq l0 x1_1 x5_1 = some r) ∧ Aside0 (kq ≤ k) ∧ Drawn0 w w')
  case atStart => exact ⟨(a1), (0), (by first | rfl | (simp; done) | (simp [*]; done)), (by first | rfl | (simp; done) | (simp [*]; done)), H', ⟨Nat.le_refl _⟩, by repeat (first | exact Drawn0.refl _ | apply Drawn0.step)⟩
  case round =>
    clear H'
    try clear c2
    try clear p2
    obtain ⟨x1_1, x5_1, rfl, rfl, HA, HK1, ⟨m1, rfl⟩⟩ := hrel
    cases gk with
    | zero => exact absurd HA.out (by simp [laws_heldInt64S.l0])
    | succ k1 =>
      have H := HA.out
      clear HA
      simp only [laws_heldInt64S.l0] at H
      by_cases c3 : x5_1 < (l0.length : Int)
      · rw [if_pos c3] at H
        have c3b0 : decide (x5_1 < (l0.length : Int)) = true := decide_eq_true c3
        clear c3
        by_cases c4 : 0 ≤ x5_1
        · rw [if_pos c4] at H
          have c4b0 : decide (0 ≤ x5_1) = true := decide_eq_true c4
          clear c4
          by_cases c5 : (rd l0 x5_1) = x1_1
          · rw [if_pos c5] at H
            have c5b0 : ((rd l0 x5_1) == x1_1) = true := beq_iff_eq.mpr c5
            have c5b1 : ((rd l0 x5_1) != x1_1) = false := bne_eq_false_iff_eq.mpr c5
            clear c5
            have H' := Aside0.mk H
            clear H
            have p421 : 0 ≤ (x5_1 : Int) := of_decide_eq_true (by first | (with_reducible assumption) | assumption)
            have q421 : x5_1 < (l0.length : Int) := of_decide_eq_true (by first | (with_reducible assumption) | assumption)
            obtain ⟨ad421, e421, hx421_0⟩ := Kd.at_int HR0.out x5_1 p421 q421
            cases e421
            replace p421 := eq_true p421
            replace q421 := eq_true q421
            go_wp2
            go_roundg k1
            case measure => have := HK1.out; omega
            case rel => exact ⟨(wrap64 (x1_1 + 1)), (wrap64 (x5_1 + 1)), (by first | rfl | (simp; done) | (simp [*]; done)), (by first | rfl | (simp; done) | (simp [*]; done)), H', ⟨by have := HK1.out; omega⟩, by repeat (first | exact Drawn0.refl _ | apply Drawn0.step)⟩
          · rw [if_neg c5] at H
            have c5b0 : ((rd l0 x5_1) == x1_1) = false := beq_eq_false_iff_ne.mpr c5
            have c5b1 : ((rd l0 x5_1) != x1_1) = true := bne_iff_ne.mpr c5
            obtain rfl := Option.some.inj H
            have p421 : 0 ≤ (x5_1 : Int) := of_decide_eq_true (by first | (with_reducible assumption) | assumption)
            have q421 : x5_1 < (l0.length : Int) := of_decide_eq_true (by first | (with_reducible assumption) | assumption)
            obtain ⟨ad421, e421, hx421_0⟩ := Kd.at_int HR0.out x5_1 p421 q421
            cases e421
            replace p421 := eq_true p421
            replace q421 := eq_true q421
            go_wp2
            go_ret
            exact ⟨by first | rfl | (simp; done) | (simp [*]; done), by repeat (first | exact Drawn0.refl _ | apply Drawn0.step)⟩
        · rw [if_neg c4] at H
          exact absurd H (by simp)
      · rw [if_neg c3] at H
        have c3b0 : decide (x5_1 < (l0.length : Int)) = false := decide_eq_false c3
        clear c3
        obtain rfl := Option.some.inj H
        go_wp2
        go_ret
        exact ⟨by first | rfl | (simp; done) | (simp [*]; done), by repeat (first | exact Drawn0.refl _ | apply Drawn0.step)⟩

end Go.Proofs.Ytnhcdfikjfjkoaa.P

namespace Go.Proofs.Ytnhcdfikjfjkoaa.P
open Go.RowKit Go.Proofs.YtnhcdfikjfjkoaaW.PrintWords Go.Proofs.YtnhcdfikjfjkoaaW.PrintLast Go.Proofs.YtnhcdfikjfjkoaaW.PrintMore
attribute [local go_sem] max2_int min2_int max_two min_two max_three min_three max_four min_four   -- for this text's walks alone
set_option linter.unusedVariables false
set_option linter.unusedSimpArgs false

/-! ### spec_l01Values: function 73 -/
def spec_l01Values.l0 : Nat → List Int → Int → Option (Bool)
  | 0, _, _ => none
  | k + 1, x0, x3 => if x3 < (x0.length : Int) then (if 0 ≤ x3 then ((spec_l00In.f (rd x0 x3) 1 500).bind fun t102 => (if t102 = true then (if x3 > 0 then (if 0 ≤ (wrap64 (x3 - 1)) then (if (wrap64 (x3 - 1)) < (x0.length : Int) then (if (rd x0 x3) ≤ (rd x0 (wrap64 (x3 - 1))) then (some false) else (spec_l01Values.l0 k x0 (wrap64 (x3 + 1)))) else (none)) else (none)) else (spec_l01Values.l0 k x0 (wrap64 (x3 + 1)))) else (some false))) else (none)) else ((spec_l00In.f (x0.length : Int) 1 8).bind fun t105 => (some t105))
def spec_l01Values.f (k : Nat) (l0 : List Int) : Option (Bool) := spec_l01Values.l0 k l0 0
theorem spec_l01Values.mono_l : ∀ k, (∀ y0 y1, LeO (spec_l01Values.l0 k y0 y1) (spec_l01Values.l0 (k + 1) y0 y1))
  | 0 => fun _ _ r h => by simp [spec_l01Values.l0] at h
  | k + 1 => by
    have ih0 := spec_l01Values.mono_l k
    · intro y0 y1
      unfold spec_l01Values.l0
      repeat' first
      | (with_reducible exact ih0 _ _)
      | (with_reducible exact LeO.refl _)
      | (with_reducible exact LeO.none _)
      | (with_reducible refine LeO.ite ?_ ?_)
      | (with_reducible refine LeO.bind ?_ (fun _ => ?_))
      | exact ih0 _ _
      | exact LeO.none _
      | refine LeO.ite ?_ ?_
      | refine LeO.bind ?_ (fun _ => ?_)
theorem spec_l01Values.mono : ∀ a0 k, LeO (spec_l01Values.f k a0) (spec_l01Values.f (k + 1) a0) := by
  intro a0 k
  have ih0 := spec_l01Values.mono_l k
  unfold spec_l01Values.f
  repeat' first
      | (with_reducible exact ih0 _ _)
      | (with_reducible exact LeO.refl _)
      | (with_reducible exact LeO.none _)
      | (with_reducible refine LeO.ite ?_ ?_)
      | (with_reducible refine LeO.bind ?_ (fun _ => ?_))
      | exact ih0 _ _
      | exact LeO.none _
      | refine LeO.ite ?_ ?_
      | refine LeO.bind ?_ (fun _ => ?_)
set_option maxHeartbeats 8000000 in
set_option maxRecDepth 100000 in
theorem spec_l01Values.calls (k : Nat) (A0 : Option Addr) (c0 : Nat) (l0 : List Int) (r : Bool) (w : World) (hr0 : Kd.C (Kd.int .i64) w A0 l0.length l0) (hc0 : l0.length ≤ c0) (h : spec_l01Values.f k l0 = some r) :
    Calls Try.prog 73 #[.slice A0 l0.length c0] w fun e w' => e = .returned (.bool r) ∧ Drawn0 w w' := by
  have HR0 := Aside0.mk hr0
  have HC0 := Aside0.mk hc0
  clear hr0 hc0
  have H : (spec_l01Values.l0 k l0 0) = some r := h
  clear h
  have H' := Aside0.mk H
  clear H
  go_enter Try.func73, Try.ntmps73
  go_wp2
  repeat (go_quiet (fail); try go_wp2)
  go_loopg [3] k (fun kq v3 w' => ∃ (x3_1 : Int), v3 = .int .i64 x3_1 ∧ Aside0 (spec_l01Values.l0 kq l0 x3_1 = some r) ∧ Aside0 (kq ≤ k) ∧ Drawn0 w w')
  case atStart => exact ⟨(0), (by first | rfl | (simp; done) | (simp [*]; done)), H', ⟨Nat.le_refl _⟩, by repeat (first | exact Drawn0.refl _ | apply Drawn0.step)⟩
  case round =>
    clear H'
    obtain ⟨x3_1, rfl, HA, HK1, ⟨m1, rfl⟩⟩ := hrel
    cases gk with
    | zero => exact absurd HA.out (by simp [spec_l01Values.l0])
    | succ k1 =>
      have H := HA.out
      clear HA
      simp only [spec_l01Values.l0] at H
      by_cases c2 : x3_1 < (l0.length : Int)
      · rw [if_pos c2] at H
        have c2b0 : decide (x3_1 < (l0.length : Int)) = true := decide_eq_true c2
        clear c2
        by_cases c3 : 0 ≤ x3_1
        · rw [if_pos c3] at H
          have c3b0 : decide (0 ≤ x3_1) = true := decide_eq_true c3
          clear c3
          replace H := Option.bind_eq_some_iff.mp H
          obtain ⟨t102, A40, H⟩ := H
          replace H : (if t102 = true then (if x3_1 > 0 then (if 0 ≤ (wrap64 (x3_1 - 1)) then (if (wrap64 (x3_1 - 1)) < (l0.length : Int) then (if (rd l0 x3_1) ≤ (rd l0 (wrap64 (x3_1 - 1))) then (some false) else (spec_l01Values.l0 k1 l0 (wrap64 (x3_1 + 1)))) else (none)) else (none)) else (spec_l01Values.l0 k1 l0 (wrap64 (x3_1 + 1)))) else (some false)) = some r := H
          have A4 := Aside0.mk A40
          clear A40
          by_cases c5 : t102 = true
          · subst c5
            have H1 : (if x3_1 > 0 then (if 0 ≤ (wrap64 (x3_1 - 1)) then (if (wrap64 (x3_1 - 1)) < (l0.length : Int) then (if (rd l0 x3_1) ≤ (rd l0 (wrap64 (x3_1 - 1))) then (some false) else (spec_l01Values.l0 k1 l0 (wrap64 (x3_1 + 1)))) else (none)) else (none)) else (spec_l01Values.l0 k1 l0 (wrap64 (x3_1 + 1)))) = some r := by rw [if_pos rfl] at H; exact H
            clear H
            have H := H1
            clear H1
            by_cases c6 : x3_1 > 0
            · rw [if_pos c6] at H
              have c6b0 : decide (0 < x3_1) = true := decide_eq_true c6
              clear c6
              obtain ⟨ji7, hji7⟩ : ∃ j_ : Int, (wrap64 (x3_1 - 1)) = j_ := ⟨_, rfl⟩
              replace H : (if 0 ≤ (ji7) then (if (ji7) < (l0.length : Int) then (if (rd l0 x3_1) ≤ (rd l0 (ji7)) then (some false) else (spec_l01Values.l0 k1 l0 (wrap64 (x3_1 + 1)))) else (none)) else (none)) = some r := by first | (rw [hji7] at H; exact H) | (simp only [hji7] at H ⊢; exact H)
              (try rw [hji7] at A4)
              have hji7w : (IntKind.i64.wrap (x3_1 - 1)) = ji7 := (i64_w _).trans hji7
              by_cases c8 : 0 ≤ (ji7)
              · rw [if_pos c8] at H
                have c8b0 : decide (0 ≤ (ji7)) = true := decide_eq_true c8
                clear c8
                by_cases c9 : (ji7) < (l0.length : Int)
                · rw [if_pos c9] at H
                  have c9b0 : decide ((ji7) < (l0.length : Int)) = true := decide_eq_true c9
                  clear c9
                  by_cases c10 : (rd l0 x3_1) ≤ (rd l0 (ji7))
                  · rw [if_pos c10] at H
                    have c10b0 : decide ((rd l0 x3_1) ≤ (rd l0 (ji7))) = true := decide_eq_true c10
                    clear c10
                    obtain rfl := Option.some.inj H
                    have p101 : 0 ≤ (x3_1 : Int) := of_decide_eq_true (by first | (with_reducible assumption) | assumption)
                    have q101 : x3_1 < (l0.length : Int) := of_decide_eq_true (by first | (with_reducible assumption) | assumption)
                    obtain ⟨ad101, e101, hx101_0⟩ := Kd.at_int HR0.out x3_1 p101 q101
                    cases e101
                    replace p101 := eq_true p101
                    replace q101 := eq_true q101
                    go_wp2_with (first | (go_at_call 74; (with_reducible refine (spec_l00In.calls (rd l0 x3_1) 1 500 true _ A4.out).mono ?_); rintro e w' ⟨rfl, ⟨nd, rfl⟩⟩; (try first | exact ⟨rfl, _, World.drewN_drewN _ _ _⟩ | exact ⟨rfl, _, Eq.trans (World.drewN_drewN _ _ _) (congrArg (World.drewN _) (Nat.add_assoc _ _ _))⟩); have p103 : 0 ≤ (x3_1 : Int) := of_decide_eq_true (by first | (with_reducible assumption) | assumption); have q103 : x3_1 < (l0.length : Int) := of_decide_eq_true (by first | (with_reducible assumption) | assumption); obtain ⟨ad103, e103, hx103_0⟩ := Kd.at_int HR0.out x3_1 p103 q103; obtain rfl : ad101 = ad103 := (by injection e103); replace p103 := eq_true p103; replace q103 := eq_true q103; have p104 : 0 ≤ ((ji7) : Int) := of_decide_eq_true (by first | (with_reducible assumption) | assumption); have q104 : (ji7) < (l0.length : Int) := of_decide_eq_true (by first | (with_reducible assumption) | assumption); obtain ⟨ad104, e104, hx104_0⟩ := Kd.at_int HR0.out (ji7) p104 q104; obtain rfl : ad101 = ad104 := (by injection e104); replace p104 := eq_true p104; replace q104 := eq_true q104))
                    repeat (go_quiet (first | (go_at_call 74; (with_reducible refine (spec_l00In.calls (rd l0 x3_1) 1 500 true _ A4.out).mono ?_); rintro e w' ⟨rfl, ⟨nd, rfl⟩⟩; (try first | exact ⟨rfl, _, World.drewN_drewN _ _ _⟩ | exact ⟨rfl, _, Eq.trans (World.drewN_drewN _ _ _) (congrArg (World.drewN _) (Nat.add_assoc _ _ _))⟩); have p103 : 0 ≤ (x3_1 : Int) := of_decide_eq_true (by first | (with_reducible assumption) | assumption); have q103 : x3_1 < (l0.length : Int) := of_decide_eq_true (by first | (with_reducible assumption) | assumption); obtain ⟨ad103, e103, hx103_0⟩ := Kd.at_int HR0.out x3_1 p103 q103; obtain rfl : ad101 = ad103 := (by injection e103); replace p103 := eq_true p103; replace q103 := eq_true q103; have p104 : 0 ≤ ((ji7) : Int) := of_decide_eq_true (by first | (with_reducible assumption) | assumption); have q104 : (ji7) < (l0.length : Int) := of_decide_eq_true (by first | (with_reducible assumption) | assumption); obtain ⟨ad104, e104, hx104_0⟩ := Kd.at_int HR0.out (ji7) p104 q104; obtain rfl : ad101 = ad104 := (by injection e104); replace p104 := eq_true p104; replace q104 := eq_true q104)); try go_wp2_with (first | (go_at_call 74; (with_reducible refine (spec_l00In.calls (rd l0 x3_1) 1 500 true _ A4.out).mono ?_); rintro e w' ⟨rfl, ⟨nd, rfl⟩⟩; (try first | exact ⟨rfl, _, World.drewN_drewN _ _ _⟩ | exact ⟨rfl, _, Eq.trans (World.drewN_drewN _ _ _) (congrArg (World.drewN _) (Nat.add_assoc _ _ _))⟩); have p103 : 0 ≤ (x3_1 : Int) := of_decide_eq_true (by first | (with_reducible assumption) | assumption); have q103 : x3_1 < (l0.length : Int) := of_decide_eq_true (by first | (with_reducible assumption) | assumption); obtain ⟨ad103, e103, hx103_0⟩ := Kd.at_int HR0.out x3_1 p103 q103; obtain rfl : ad101 = ad103 := (by injection e103); replace p103 := eq_true p103; replace q103 := eq_true q103; have p104 : 0 ≤ ((ji7) : Int) := of_decide_eq_true (by first | (with_reducible assumption) | assumption); have q104 : (ji7) < (l0.length : Int) := of_decide_eq_true (by first | (with_reducible assumption) | assumption); obtain ⟨ad104, e104, hx104_0⟩ := Kd.at_int HR0.out (ji7) p104 q104; obtain rfl : ad101 = ad104 := (by injection e104); replace p104 := eq_true p104; replace q104 := eq_true q104)))
                    go_ret
                    exact ⟨by first | rfl | (simp; done) | (simp only [← hji7] <;> (first | rfl | simp)) | (simp [*]; done), by repeat (first | exact Drawn0.refl _ | apply Drawn0.step)⟩
                  · rw [if_neg c10] at H
                    have c10b0 : decide ((rd l0 x3_1) ≤ (rd l0 (ji7))) = false := decide_eq_false c10
                    clear c10
                    have H' := Aside0.mk H
                    clear H
                    have p101 : 0 ≤ (x3_1 : Int) := of_decide_eq_true (by first | (with_reducible assumption) | assumption)
                    have q101 : x3_1 < (l0.length : Int) := of_decide_eq_true (by first | (with_reducible assumption) | assumption)
                    obtain ⟨ad101, e101, hx101_0⟩ := Kd.at_int HR0.out x3_1 p101 q101
                    cases e101
                    replace p101 := eq_true p101
                    replace q101 := eq_true q101
                    go_wp2_with (first | (go_at_call 74; (with_reducible refine (spec_l00In.calls (rd l0 x3_1) 1 500 true _ A4.out).mono ?_); rintro e w' ⟨rfl, ⟨nd, rfl⟩⟩; (try first | exact ⟨rfl, _, World.drewN_drewN _ _ _⟩ | exact ⟨rfl, _, Eq.trans (World.drewN_drewN _ _ _) (congrArg (World.drewN _) (Nat.add_assoc _ _ _))⟩); have p103 : 0 ≤ (x3_1 : Int) := of_decide_eq_true (by first | (with_reducible assumption) | assumption); have q103 : x3_1 < (l0.length : Int) := of_decide_eq_true (by first | (with_reducible assumption) | assumption); obtain ⟨ad103, e103, hx103_0⟩ := Kd.at_int HR0.out x3_1 p103 q103; obtain rfl : ad101 = ad103 := (by injection e103); replace p103 := eq_true p103; replace q103 := eq_true q103; have p104 : 0 ≤ ((ji7) : Int) := of_decide_eq_true (by first | (with_reducible assumption) | assumption); have q104 : (ji7) < (l0.length : Int) := of_decide_eq_true (by first | (with_reducible assumption) | assumption); obtain ⟨ad104, e104, hx104_0⟩ := Kd.at_int HR0.out (ji7) p104 q104; obtain rfl : ad101 = ad104 := (by injection e104); replace p104 := eq_true p104; replace q104 := eq_true q104))
                    repeat (go_quiet (first | (go_at_call 74; (with_reducible refine (spec_l00In.calls (rd l0 x3_1) 1 500 true _ A4.out).mono ?_); rintro e w' ⟨rfl, ⟨nd, rfl⟩⟩; (try first | exact ⟨rfl, _, World.drewN_drewN _ _ _⟩ | exact ⟨rfl, _, Eq.trans (World.drewN_drewN _ _ _) (congrArg (World.drewN _) (Nat.add_assoc _ _ _))⟩); have p103 : 0 ≤ (x3_1 : Int) := of_decide_eq_true (by first | (with_reducible assumption) | assumption); have q103 : x3_1 < (l0.length : Int) := of_decide_eq_true (by first | (with_reducible assumption) | assumption); obtain ⟨ad103, e103, hx103_0⟩ := Kd.at_int HR0.out x3_1 p103 q103; obtain rfl : ad101 = ad103 := (by injection e103); replace p103 := eq_true p103; replace q103 := eq_true q103; have p104 : 0 ≤ ((ji7) : Int) := of_decide_eq_true (by first | (with_reducible assumption) | assumption); have q104 : (ji7) < (l0.length : Int) := of_decide_eq_true (by first | (with_reducible assumption) | assumption); obtain ⟨ad104, e104, hx104_0⟩ := Kd.at_int HR0.out (ji7) p104 q104; obtain rfl : ad101 = ad104 := (by injection e104); replace p104 := eq_true p104; replace q104 := eq_true q104)); try go_wp2_with (first | (go_at_call 74; (with_reducible refine (spec_l00In.calls (rd l0 x3_1) 1 500 true _ A4.out).mono ?_); rintro e w' ⟨rfl, ⟨nd, rfl⟩⟩; (try first | exact ⟨rfl, _, World.drewN_drewN _ _ _⟩ | exact ⟨rfl, _, Eq.trans (World.drewN_drewN _ _ _) (congrArg (World.drewN _) (Nat.add_assoc _ _ _))⟩); have p103 : 0 ≤ (x3_1 : Int) := of_decide_eq_true (by first | (with_reducible assumption) | assumption); have q103 : x3_1 < (l0.length : Int) := of_decide_eq_true (by first | (with_reducible assumption) | assumption); obtain ⟨ad103, e103, hx103_0⟩ := Kd.at_int HR0.out x3_1 p103 q103; obtain rfl : ad101 = ad103 := (by injection e103); replace p103 := eq_true p103; replace q103 := eq_true q103; have p104 : 0 ≤ ((ji7) : Int) := of_decide_eq_true (by first | (with_reducible assumption) | assumption); have q104 : (ji7) < (l0.length : Int) := of_decide_eq_true (by first | (with_reducible assumption) | assumption); obtain ⟨ad104, e104, hx104_0⟩ := Kd.at_int HR0.out (ji7) p104 q104; obtain rfl : ad101 = ad104 := (by injection e104); replace p104 := eq_true p104; replace q104 := eq_true q104)))
                    go_roundg k1
                    case measure => have := HK1.out; omega
                    case rel => exact ⟨(wrap64 (x3_1 + 1)), (by first | rfl | (simp; done) | (simp [*]; done)), H', ⟨by have := HK1.out; omega⟩, by repeat (first | exact Drawn0.refl _ | apply Drawn0.step)⟩
                · rw [if_neg c9] at H
                  exact absurd H (by simp)
              · rw [if_neg c8] at H
                exact absurd H (by simp)
            · rw [if_neg c6] at H
              have c6b0 : decide (0 < x3_1) = false := decide_eq_false c6
              clear c6
              have H' := Aside0.mk H
              clear H
              have p101 : 0 ≤ (x3_1 : Int) := of_decide_eq_true (by first | (with_reducible assumption) | assumption)
              have q101 : x3_1 < (l0.length : Int) := of_decide_eq_true (by first | (with_reducible assumption) | assumption)
              obtain ⟨ad101, e101, hx101_0⟩ := Kd.at_int HR0.out x3_1 p101 q101
              cases e101
              replace p101 := eq_true p101
              replace q101 := eq_true q101
              go_wp2_with (first | (go_at_call 74; (with_reducible refine (spec_l00In.calls (rd l0 x3_1) 1 500 true _ A4.out).mono ?_); rintro e w' ⟨rfl, ⟨nd, rfl⟩⟩; (try first | exact ⟨rfl, _, World.drewN_drewN _ _ _⟩ | exact ⟨rfl, _, Eq.trans (World.drewN_drewN _ _ _) (congrArg (World.drewN _) (Nat.add_assoc _ _ _))⟩)))
              repeat (go_quiet (first | (go_at_call 74; (with_reducible refine (spec_l00In.calls (rd l0 x3_1) 1 500 true _ A4.out).mono ?_); rintro e w' ⟨rfl, ⟨nd, rfl⟩⟩; (try first | exact ⟨rfl, _, World.drewN_drewN _ _ _⟩ | exact ⟨rfl, _, Eq.trans (World.drewN_drewN _ _ _) (congrArg (World.drewN _) (Nat.add_assoc _ _ _))⟩))); try go_wp2_with (first | (go_at_call 74; (with_reducible refine (spec_l00In.calls (rd l0 x3_1) 1 500 true _ A4.out).mono ?_); rintro e w' ⟨rfl, ⟨nd, rfl⟩⟩; (try first | exact ⟨rfl, _, World.drewN_drewN _ _ _⟩ | exact ⟨rfl, _, Eq.trans (World.drewN_drewN _ _ _) (congrArg (World.drewN _) (Nat.add_assoc _ _ _))⟩))))
              go_roundg k1
              case measure => have := HK1.out; omega
              case rel => exact ⟨(wrap64 (x3_1 + 1)), (by first | rfl | (simp; done) | (simp [*]; done)), H', ⟨by have := HK1.out; omega⟩, by repeat (first | exact Drawn0.refl _ | apply Drawn0.step)⟩
          · replace c5 := Bool.eq_false_iff.mpr c5
            subst c5
            have H1 : (some false) = some r := by rw [if_neg (show ¬ (false = true) by decide)] at H; exact H
            clear H
            have H := H1
            clear H1
            obtain rfl := Option.some.inj H
            have p101 : 0 ≤ (x3_1 : Int) := of_decide_eq_true (by first | (with_reducible assumption) | assumption)
            have q101 : x3_1 < (l0.length : Int) := of_decide_eq_true (by first | (with_reducible assumption) | assumption)
            obtain ⟨ad101, e101, hx101_0⟩ := Kd.at_int HR0.out x3_1 p101 q101
            cases e101
            replace p101 := eq_true p101
            replace q101 := eq_true q101
            go_wp2_with (first | (go_at_call 74; (with_reducible refine (spec_l00In.calls (rd l0 x3_1) 1 500 false _ A4.out).mono ?_); rintro e w' ⟨rfl, ⟨nd, rfl⟩⟩; (try first | exact ⟨rfl, _, World.drewN_drewN _ _ _⟩ | exact ⟨rfl, _, Eq.trans (World.drewN_drewN _ _ _) (congrArg (World.drewN _) (Nat.add_assoc _ _ _))⟩)))
            repeat (go_quiet (first | (go_at_call 74; (with_reducible refine (spec_l00In.calls (rd l0 x3_1) 1 500 false _ A4.out).mono ?_); rintro e w' ⟨rfl, ⟨nd, rfl⟩⟩; (try first | exact ⟨rfl, _, World.drewN_drewN _ _ _⟩ | exact ⟨rfl, _, Eq.trans (World.drewN_drewN _ _ _) (congrArg (World.drewN _) (Nat.add_assoc _ _ _))⟩))); try go_wp2_with (first | (go_at_call 74; (with_reducible refine (spec_l00In.calls (rd l0 x3_1) 1 500 false _ A4.out).mono ?_); rintro e w' ⟨rfl, ⟨nd, rfl⟩⟩; (try first | exact ⟨rfl, _, World.drewN_drewN _ _ _⟩ | exact ⟨rfl, _, Eq.trans (World.drewN_drewN _ _ _) (congrArg (World.drewN _) (Nat.add_assoc _ _ _))⟩))))
            go_ret
            exact ⟨by first | rfl | (simp; done) | (simp [*]; done), by repeat (first | exact Drawn0.refl _ | apply Drawn0.step)⟩
        · rw [if_neg c3] at H
          exact absurd H (by simp)
      · rw [if_neg c2] at H
        have c2b0 : decide (x3_1 < (l0.length : Int)) = false := decide_eq_false c2
        clear c2
        replace H := Option.bind_eq_some_iff.mp H
        obtain ⟨t105, A110, H⟩ := H
        replace H : (some t105) = some r := H
        have A11 := Aside0.mk A110
        clear A110
        obtain rfl := Option.some.inj H
        go_wp2_with (first | (go_at_call 74; (with_reducible refine (spec_l00In.calls (l0.length : Int) 1 8 t105 _ A11.out).mono ?_); rintro e w' ⟨rfl, ⟨nd, rfl⟩⟩; (try first | exact ⟨rfl, _, World.drewN_drewN _ _ _⟩ | exact ⟨rfl, _, Eq.trans (World.drewN_drewN _ _ _) (congrArg (World.drewN _) (Nat.add_assoc _ _ _))⟩)))
        repeat (go_quiet (first | (go_at_call 74; (with_reducible refine (spec_l00In.calls (l0.length : Int) 1 8 t105 _ A11.out).mono ?_); rintro e w' ⟨rfl, ⟨nd, rfl⟩⟩; (try first | exact ⟨rfl, _, World.drewN_drewN _ _ _⟩ | exact ⟨rfl, _, Eq.trans (World.drewN_drewN _ _ _) (congrArg (World.drewN _) (Nat.add_assoc _ _ _))⟩))); try go_wp2_with (first | (go_at_call 74; (with_reducible refine (spec_l00In.calls (l0.length : Int) 1 8 t105 _ A11.out).mono ?_); rintro e w' ⟨rfl, ⟨nd, rfl⟩⟩; (try first | exact ⟨rfl, _, World.drewN_drewN _ _ _⟩ | exact ⟨rfl, _, Eq.trans (World.drewN_drewN _ _ _) (congrArg (World.drewN _) (Nat.add_assoc _ _ _))⟩))))
        go_ret
        exact ⟨by first | rfl | (simp; done) | (simp [*]; done), by repeat (first | exact Drawn0.refl _ | apply Drawn0.step)⟩

end Go.Proofs.Ytnhcdfikjfjkoaa.P

namespace Go.Proofs.Ytnhcdfikjfjkoaa.P
open Go.RowKit Go.Proofs.YtnhcdfikjfjkoaaW.PrintWords Go.Proofs.YtnhcdfikjfjkoaaW.PrintLast Go.Proofs.YtnhcdfikjfjkoaaW.PrintMore
attribute [local go_sem] max2_int min2_int max_two min_two max_three min_three max_four min_four   -- for this text's walks alone
set_option linter.unusedVariables false
set_option linter.unusedSimpArgs false

/-! ### spec_l01Asked: function 39 -/
def spec_l01Asked.f (k : Nat) (l0 : List Int) (a1 : Bool) : Option (Int) := (spec_l01Values.f k l0).bind fun t106 => (if t106 = true then (if a1 = true then (some 0) else (some 2)) else (some 1))
theorem spec_l01Asked.mono : ∀ a0 a1 k, LeO (spec_l01Asked.f k a0 a1) (spec_l01Asked.f (k + 1) a0 a1) := by
  intro a0 a1 k
  unfold spec_l01Asked.f
  repeat' first
      | (with_reducible exact spec_l01Values.mono _ _)
      | (with_reducible exact LeO.refl _)
      | (with_reducible exact LeO.none _)
      | (with_reducible refine LeO.ite ?_ ?_)
      | (with_reducible refine LeO.bind ?_ (fun _ => ?_))
      | exact spec_l01Values.mono _ _
      | exact LeO.none _
      | refine LeO.ite ?_ ?_
      | refine LeO.bind ?_ (fun _ => ?_)
set_option maxHeartbeats 8000000 in
set_option maxRecDepth 100000 in
theorem spec_l01Asked.calls (k : Nat) (A0 : Option Addr) (c0 : Nat) (l0 : List Int) (a1 : Bool) (r : Int) (w : World) (hr0 : Kd.C (Kd.int .i64) w A0 l0.length l0) (hc0 : l0.length ≤ c0) (h : spec_l01Asked.f k l0 a1 = some r) :
    Calls Try.prog 39 #[.slice A0 l0.length c0, .bool a1] w fun e w' => e = .returned (.int .i64 r) ∧ Drawn0 w w' := by
  have HR0 := Aside0.mk hr0
  have HC0 := Aside0.mk hc0
  clear hr0 hc0
  have H : ((spec_l01Values.f k l0).bind fun t106 => (if t106 = true then (if a1 = true then (some 0) else (some 2)) else (some 1))) = some r := h
  clear h
  replace H := Option.bind_eq_some_iff.mp H
  obtain ⟨t106, A30, H⟩ := H
  replace H : (if t106 = true then (if a1 = true then (some 0) else (some 2)) else (some 1)) = some r := H
  have A3 := Aside0.mk A30
  clear A30
  by_cases c4 : t106 = true
  · subst c4
    have H1 : (if a1 = true then (some 0) else (some 2)) = some r := by rw [if_pos rfl] at H; exact H
    clear H
    have H := H1
    clear H1
    by_cases c5 : a1 = true
    · subst c5
      have H1 : (some 0) = some r := by rw [if_pos rfl] at H; exact H
      clear H
      have H := H1
      clear H1
      obtain rfl := Option.some.inj H
      go_enter Try.func39, Try.ntmps39
      go_wp2_with (first | ((with_reducible refine gate_callee (f := 73) rfl ?_); refine goesL_ (some 6) rfl rfl Try.func73 (by kernel_rfl) rfl #[.slice A0 l0.length c0] rfl (by (try simp only [List.map_toArray, List.map_cons, List.map_nil]); first | done | rfl | (simp only [List.length_drop, List.length_take]; rfl)) ?_; (with_reducible refine (spec_l01Values.calls k _ _ l0 true _ ?side1 ?side2 A3.out).mono ?_); (case side1 => repeat (first | exact HR0.out | (with_reducible refine Kd.C_alloc ?_ _) | (with_reducible refine Kd.C_drewN ?_ _) | (with_reducible refine Kd.C_drew ?_))); (case side2 => exact HC0.out); rintro e w' ⟨rfl, ⟨nd, rfl⟩⟩; refine ⟨_, rfl, ?_⟩))
      go_ret
      exact ⟨by first | rfl | (simp; done) | (simp [*]; done), by repeat (first | exact Drawn0.refl _ | apply Drawn0.step)⟩
    · replace c5 := Bool.eq_false_iff.mpr c5
      subst c5
      have H1 : (some 2) = some r := by rw [if_neg (show ¬ (false = true) by decide)] at H; exact H
      clear H
      have H := H1
      clear H1
      obtain rfl := Option.some.inj H
      go_enter Try.func39, Try.ntmps39
      go_wp2_with (first | ((with_reducible refine gate_callee (f := 73) rfl ?_); refine goesL_ (some 6) rfl rfl Try.func73 (by kernel_rfl) rfl #[.slice A0 l0.length c0] rfl (by (try simp only [List.map_toArray, List.map_cons, List.map_nil]); first | done | rfl | (simp only [List.length_drop, List.length_take]; rfl)) ?_; (with_reducible refine (spec_l01Values.calls k _ _ l0 true _ ?side1 ?side2 A3.out).mono ?_); (case side1 => repeat (first | exact HR0.out | (with_reducible refine Kd.C_alloc ?_ _) | (with_reducible refine Kd.C_drewN ?_ _) | (with_reducible refine Kd.C_drew ?_))); (case side2 => exact HC0.out); rintro e w' ⟨rfl, ⟨nd, rfl⟩⟩; refine ⟨_, rfl, ?_⟩))
      go_ret
      exact ⟨by first | rfl | (simp; done) | (simp [*]; done), by repeat (first | exact Drawn0.refl _ | apply Drawn0.step)⟩
  · replace c4 := Bool.eq_false_iff.mpr c4
    subst c4
    have H1 : (some 1) = some r := by rw [if_neg (show ¬ (false = true) by decide)] at H; exact H
    clear H
    have H := H1
    clear H1
    obtain rfl := Option.some.inj H
    go_enter Try.func39, Try.ntmps39
    go_wp2_with (first | ((with_reducible refine gate_callee (f := 73) rfl ?_); refine goesL_ (some 6) rfl rfl Try.func73 (by kernel_rfl) rfl #[.slice A0 l0.length c0] rfl (by (try simp only [List.map_toArray, List.map_cons, List.map_nil]); first | done | rfl | (simp only [List.length_drop, List.length_take]; rfl)) ?_; (with_reducible refine (spec_l01Values.calls k _ _ l0 false _ ?side1 ?side2 A3.out).mono ?_); (case side1 => repeat (first | exact HR0.out | (with_reducible refine Kd.C_alloc ?_ _) | (with_reducible refine Kd.C_drewN ?_ _) | (with_reducible refine Kd.C_drew ?_))); (case side2 => exact HC0.out); rintro e w' ⟨rfl, ⟨nd, rfl⟩⟩; refine ⟨_, rfl, ?_⟩))
    go_ret
    exact ⟨by first | rfl | (simp; done) | (simp [*]; done), by repeat (first | exact Drawn0.refl _ | apply Drawn0.step)⟩

end Go.Proofs.Ytnhcdfikjfjkoaa.P

namespace Go.Proofs.Ytnhcdfikjfjkoaa.P
open Go.RowKit Go.Proofs.YtnhcdfikjfjkoaaW.PrintWords Go.Proofs.YtnhcdfikjfjkoaaW.PrintLast Go.Proofs.YtnhcdfikjfjkoaaW.PrintMore
attribute [local go_sem] max2_int min2_int max_two min_two max_three min_three max_four min_four   -- for this text's walks alone
set_option linter.unusedVariables false
set_option linter.unusedSimpArgs false

/-! ### spec_l01Postage: function 81 -/
def spec_l01Postage.f (a0 : Int) : Option (Bool) := (spec_l00In.f a0 0 1000).bind fun t309 => (some t309)
set_option maxHeartbeats 8000000 in
set_option maxRecDepth 100000 in
theorem spec_l01Postage.calls (a0 : Int) (r : Bool) (w : World) (h : spec_l01Postage.f a0 = some r) :
    Calls Try.prog 81 #[.int .i64 a0] w fun e w' => e = .returned (.bool r) ∧ Drawn0 w w' := by
  have H : ((spec_l00In.f a0 0 1000).bind fun t309 => (some t309)) = some r := h
  clear h
  replace H := Option.bind_eq_some_iff.mp H
  obtain ⟨t309, A20, H⟩ := H
  replace H : (some t309) = some r := H
  have A2 := Aside0.mk A20
  clear A20
  obtain rfl := Option.some.inj H
  go_enter Try.func81, Try.ntmps81
  go_wp2_with (first | ((with_reducible refine gate_callee (f := 74) rfl ?_); refine goesL_ (some 4) rfl rfl Try.func74 (by kernel_rfl) rfl #[.int .i64 a0, .int .i64 0, .int .i64 1000] rfl (by (try simp only [List.map_toArray, List.map_cons, List.map_nil]); first | done | rfl | (simp only [List.length_drop, List.length_take]; rfl)) ?_; (with_reducible refine (spec_l00In.calls a0 0 1000 t309 _ A2.out).mono ?_); rintro e w' ⟨rfl, ⟨nd, rfl⟩⟩; refine ⟨_, rfl, ?_⟩))
  go_ret
  exact ⟨by first | rfl | (simp; done) | (simp [*]; done), by repeat (first | exact Drawn0.refl _ | apply Drawn0.step)⟩

end Go.Proofs.Ytnhcdfikjfjkoaa.P

namespace Go.Proofs.Ytnhcdfikjfjkoaa.Pure
open Go.RowKit Go.Proofs.Ytnhcdfikjfjkoaa.P Go.Proofs.YtnhcdfikjfjkoaaW.PrintWords Go.Proofs.YtnhcdfikjfjkoaaW.PrintLast
set_option linter.unusedVariables false
set_option linter.unusedSimpArgs false

theorem EvG {α : Type} {g : Nat → Option α} {r : α} (h : Ev g r) : ∃ K, ∀ k, K ≤ k → g k = some r := h
theorem EvI {α : Type} {g : Nat → Option α} {r : α} (K : Nat) (h : ∀ k, K ≤ k → g k = some r) : Ev g r := ⟨K, h⟩
theorem w64 {x : Int} (h0 : -9223372036854775808 ≤ x) (h1 : x ≤ 9223372036854775807) : wrap64 x = x := by
  unfold wrap64; omega
theorem wN (i : Nat) (h : i < 4611686018427387904) : wrap64 ((i : Int) + 1) = ((i + 1 : Nat) : Int) := by
  unfold wrap64; omega
theorem rdN (l : List Int) (i : Nat) : rd l (i : Int) = l.getD i 0 := rfl
theorem rd_at (l : List Int) (i : Int) (n : Nat) (h : i = n) : rd l i = l.getD n 0 := by subst h; rfl
theorem getD_eq (l : List Int) (i : Nat) (h : i < l.length) : l.getD i 0 = l[i] := by
  rw [List.getD_eq_getElem?_getD, List.getElem?_eq_getElem h]; rfl
theorem getD_mem (l : List Int) (i : Nat) (h : i < l.length) : l.getD i 0 ∈ l := by rw [getD_eq l i h]; exact List.getElem_mem h
theorem list_ext (a b : List Int) (hl : a.length = b.length) (h : ∀ j, j < b.length → a.getD j 0 = b.getD j 0) : a = b := by
  apply List.ext_getElem hl
  intro i h1 h2
  have := h i h2
  rwa [getD_eq a i h1, getD_eq b i h2] at this
theorem getD_set (l : List Int) (i j : Nat) (v : Int) (h : i < l.length) : (l.set i v).getD j 0 = if i = j then v else l.getD j 0 := by
  simp only [List.getD_eq_getElem?_getD, List.getElem?_set]
  by_cases e : i = j
  · subst e; simp [h]
  · simp [e]
theorem getD_rep (n j : Nat) (v : Int) (h : j < n) : (List.replicate n v).getD j 0 = v := by
  simp [List.getD_eq_getElem?_getD, List.getElem?_replicate, h]

set_option linter.unusedVariables false
set_option linter.unusedSimpArgs false

theorem rdS (l : List S56) (i : Nat) : rd_T56 l (i : Int) = l.getD i z56 := rfl
theorem rdS' (l : List S58) (i : Nat) : rd_T58 l (i : Int) = l.getD i z58 := rfl
theorem getD_eqG {α : Type} (z : α) (l : List α) (i : Nat) (h : i < l.length) : l.getD i z = l[i] := by
  rw [List.getD_eq_getElem?_getD, List.getElem?_eq_getElem h]; rfl
theorem list_extG {α : Type} (z : α) (a b : List α) (hl : a.length = b.length) (h : ∀ j, j < b.length → a.getD j z = b.getD j z) : a = b := by
  apply List.ext_getElem hl
  intro i h1 h2
  have := h i h2
  rwa [getD_eqG z a i h1, getD_eqG z b i h2] at this
theorem getD_setG {α : Type} (z : α) (l : List α) (i j : Nat) (v : α) (h : i < l.length) : (l.set i v).getD j z = if i = j then v else l.getD j z := by
  simp only [List.getD_eq_getElem?_getD, List.getElem?_set]
  by_cases e : i = j
  · subst e; simp [h]
  · simp [e]
/-- A stock as the program has it. -/
def cv (x : S58) : S56 := ⟨x.f0, x.f1⟩
theorem szS (l : List S58) (a : Int) (h0 : 0 ≤ a) (h1 : a ≤ 1048576) (hl : l.length ≤ 9223372036854775807) : laws_szStampS.f l a = some (if (l.length : Int) ≤ a then a - l.length else -1) := by
  unfold laws_szStampS.f
  rw [w64 (by omega) (by omega)]
  split <;> split <;> first | rfl | omega
theorem toS_l0 (l : List S58) (hb : l.length ≤ 17592186044415) : ∀ d i (x : List S56), l.length - i = d → i ≤ l.length → x.length = l.length → (∀ j, j < i → x.getD j z56 = cv (l.getD j z58)) → Ev (fun k => laws_toStampS.l0 k l x (i : Int)) (l.map cv) := by
  intro d
  induction d with
  | zero =>
    intro i x hd hi hx hj
    refine Ev.step (f := fun _ => some x) (fun k => ?_) ?_
    · rw [laws_toStampS.l0, if_neg (by omega)]
    · have : x = l.map cv := list_extG z56 x _ (by rw [List.length_map, hx]) (fun j h => by
        rw [List.length_map] at h
        rw [hj j (by omega), getD_eqG z56 _ j (by rw [List.length_map]; exact h), List.getElem_map, getD_eqG z58 l j h])
      rw [this]; exact Ev.now _
  | succ d ih =>
    intro i x hd hi hx hj
    refine Ev.step (fun k => ?_) (ih (i + 1) (x.set i (cv (l.getD i z58))) (by omega) (by omega) (by simpa using hx) ?_)
    · rw [laws_toStampS.l0, if_pos (by omega), if_pos (by omega), laws_toStamp.f, Option.bind_some, if_pos (by omega), wN i (by omega), rdS', Int.toNat_natCast]
      rfl
    · intro j h
      rw [getD_setG z56 x i j _ (by omega)]
      by_cases e : i = j
      · rw [if_pos e, e]
      · rw [if_neg e]; exact hj j (by omega)
theorem toS (l : List S58) (hb : l.length ≤ 17592186044415) : Ev (fun k => laws_toStampS.f k l) (l.map cv) := by
  refine Ev.congr (f := fun k => laws_toStampS.l0 k l (List.replicate l.length z56) ((0 : Nat) : Int)) (fun k => ?_) (toS_l0 l hb _ 0 _ rfl (Nat.zero_le _) (by simp) (fun j h => absurd h (Nat.not_lt_zero _)))
  simp only [laws_toStampS.f, Int.toNat_natCast]
  rw [if_pos (by omega), if_pos (by omega)]; rfl
theorem eqS_l0 (l : List S56) (hb : l.length ≤ 17592186044415) : ∀ d i, l.length - i = d → i ≤ l.length → Ev (fun k => laws_eqStampS.l0 k l l (i : Int)) true := by
  intro d
  induction d with
  | zero =>
    intro i hd hi
    refine Ev.step (f := fun _ => some true) (fun k => ?_) (Ev.now _)
    rw [laws_eqStampS.l0, if_neg (by omega)]
  | succ d ih =>
    intro i hd hi
    refine Ev.step (fun k => ?_) (ih (i + 1) (by omega) (by omega))
    rw [laws_eqStampS.l0, if_pos (by omega), if_pos (by omega), if_pos (by omega), laws_eqStamp.f, if_pos rfl, if_pos rfl, Option.bind_some, if_pos rfl, wN i (by omega)]
theorem eqS (l : List S56) (hb : l.length ≤ 17592186044415) : Ev (fun k => laws_eqStampS.f k l l) true := by
  refine Ev.congr (f := fun k => laws_eqStampS.l0 k l l ((0 : Nat) : Int)) (fun k => ?_) (eqS_l0 l hb _ 0 rfl (Nat.zero_le _))
  rw [laws_eqStampS.f, if_pos rfl]; rfl

set_option linter.unusedVariables false
set_option linter.unusedSimpArgs false

theorem toI_l0 (l : List Int) (hb : l.length ≤ 17592186044415) : ∀ d i x, l.length - i = d → i ≤ l.length → x.length = l.length → (∀ j, j < i → x.getD j 0 = l.getD j 0) → Ev (fun k => laws_toInt64S.l0 k l x (i : Int)) l := by
  intro d
  induction d with
  | zero =>
    intro i x hd hi hx hj
    refine Ev.step (f := fun _ => some x) (fun k => ?_) ?_
    · rw [laws_toInt64S.l0, if_neg (by omega)]
    · have : x = l := list_ext x l hx (fun j h => hj j (by omega))
      rw [this]; exact Ev.now l
  | succ d ih =>
    intro i x hd hi hx hj
    refine Ev.step (fun k => ?_) (ih (i + 1) (x.set i (l.getD i 0)) (by omega) (by omega) (by simpa using hx) ?_)
    · rw [laws_toInt64S.l0, if_pos (by omega), if_pos (by omega), if_pos (by omega), wN i (by omega), rdN, Int.toNat_natCast]
    · intro j h
      rw [getD_set x i j _ (by omega)]
      by_cases e : i = j
      · rw [if_pos e, e]
      · rw [if_neg e]; exact hj j (by omega)
/-- A list is copied. -/
theorem toI (l : List Int) (hb : l.length ≤ 17592186044415) : Ev (fun k => laws_toInt64S.f k l) l := by
  refine Ev.congr (f := fun k => laws_toInt64S.l0 k l (List.replicate l.length 0) ((0 : Nat) : Int)) (fun k => ?_) (toI_l0 l hb _ 0 _ rfl (Nat.zero_le _) (by simp) (fun j h => absurd h (Nat.not_lt_zero _)))
  simp only [laws_toInt64S.f, Int.toNat_natCast]
  rw [if_pos (by omega), if_pos (by omega)]; rfl

theorem eqI_l0 (l : List Int) (hb : l.length ≤ 17592186044415) : ∀ d i, l.length - i = d → i ≤ l.length → Ev (fun k => laws_eqInt64S.l0 k l l (i : Int)) true := by
  intro d
  induction d with
  | zero =>
    intro i hd hi
    refine Ev.step (f := fun _ => some true) (fun k => ?_) (Ev.now true)
    rw [laws_eqInt64S.l0, if_neg (by omega)]
  | succ d ih =>
    intro i hd hi
    refine Ev.step (fun k => ?_) (ih (i + 1) (by omega) (by omega))
    rw [laws_eqInt64S.l0, if_pos (by omega), if_pos (by omega), if_pos (by omega), if_pos rfl, wN i (by omega)]
/-- A list is equal to itself. -/
theorem eqI (l : List Int) (hb : l.length ≤ 17592186044415) : Ev (fun k => laws_eqInt64S.f k l l) true := by
  refine Ev.congr (f := fun k => laws_eqInt64S.l0 k l l ((0 : Nat) : Int)) (fun k => ?_) (eqI_l0 l hb _ 0 rfl (Nat.zero_le _))
  simp only [laws_eqInt64S.f, if_true]; rfl

/-- The numbers from m on. -/
def iota (m : Nat) : Nat → List Int
  | 0 => []
  | n + 1 => (m : Int) :: iota (m + 1) n
theorem iota_len (m n : Nat) : (iota m n).length = n := by
  induction n generalizing m with
  | zero => rfl
  | succ n ih => simp [iota, ih]
theorem iota_at (m n j : Nat) (h : j < n) : (iota m n).getD j 0 = ((m + j : Nat) : Int) := by
  induction n generalizing m j with
  | zero => omega
  | succ n ih =>
    cases j with
    | zero => rfl
    | succ j =>
      have := ih (m + 1) j (by omega)
      simp only [iota, List.getD_cons_succ, this]
      omega

theorem markI_l0 (n m : Nat) (hb : n ≤ 17592186044415) (hm : m ≤ 17592186044415) : ∀ d i x, n - i = d → i ≤ n → x.length = n → (∀ j, j < i → x.getD j 0 = ((m + j : Nat) : Int)) →
    Ev (fun k => laws_markInt64S.l0 k x ((m + i : Nat) : Int) (i : Int)) (((m + n : Nat) : Int), iota m n) := by
  intro d
  induction d with
  | zero =>
    intro i x hd hi hx hj
    obtain rfl : i = n := by omega
    refine Ev.step (f := fun _ => some (((m + i : Nat) : Int), x)) (fun k => ?_) ?_
    · rw [laws_markInt64S.l0, if_neg (by omega)]
    · have : x = iota m i := list_ext x _ (by rw [iota_len]; exact hx) (fun j h => by rw [iota_len] at h; rw [hj j h, iota_at m i j h])
      rw [this]; exact Ev.now _
  | succ d ih =>
    intro i x hd hi hx hj
    refine Ev.step (fun k => ?_) (ih (i + 1) (x.set i ((m + i : Nat) : Int)) (by omega) (by omega) (by simpa using hx) ?_)
    · rw [laws_markInt64S.l0, if_pos (by omega), if_pos (by omega), wN i (by omega), wN (m + i) (by omega), Int.toNat_natCast]; rfl
    · intro j h
      rw [getD_set x i j _ (by omega)]
      by_cases e : i = j
      · rw [if_pos e, e]
      · rw [if_neg e]; exact hj j (by omega)
/-- A list is marked with the numbers from m on. -/
theorem markI (l : List Int) (m : Nat) (hb : l.length ≤ 17592186044415) (hm : m ≤ 17592186044415) : Ev (fun k => laws_markInt64S.f k l (m : Int)) (((m + l.length : Nat) : Int), iota m l.length) :=
  markI_l0 l.length m hb hm _ 0 l rfl (Nat.zero_le _) rfl (fun j h => absurd h (Nat.not_lt_zero _))

theorem heldI_l0 (n m : Nat) (hb : n ≤ 17592186044415) (hm : m ≤ 17592186044415) : ∀ d i, n - i = d → i ≤ n → Ev (fun k => laws_heldInt64S.l0 k (iota m n) ((m + i : Nat) : Int) (i : Int)) ((m + n : Nat) : Int) := by
  intro d
  induction d with
  | zero =>
    intro i hd hi
    obtain rfl : i = n := by omega
    refine Ev.step (f := fun _ => some (((m + i : Nat) : Int))) (fun k => ?_) (Ev.now _)
    rw [laws_heldInt64S.l0, iota_len, if_neg (by omega)]
  | succ d ih =>
    intro i hd hi
    refine Ev.step (fun k => ?_) (ih (i + 1) (by omega) (by omega))
    rw [laws_heldInt64S.l0, iota_len, if_pos (by omega), if_pos (by omega), rdN, iota_at m n i (by omega), if_pos rfl, wN i (by omega), wN (m + i) (by omega)]; rfl
/-- What was marked is found again. -/
theorem heldI (n m : Nat) (hb : n ≤ 17592186044415) (hm : m ≤ 17592186044415) : Ev (fun k => laws_heldInt64S.f k (iota m n) (m : Int)) ((m + n : Nat) : Int) :=
  heldI_l0 n m hb hm _ 0 rfl (Nat.zero_le _)

set_option linter.unusedVariables false
set_option linter.unusedSimpArgs false

theorem inF (a lo hi : Int) : spec_l00In.f a lo hi = some (decide (lo ≤ a) && decide (a ≤ hi)) := by
  unfold spec_l00In.f; by_cases h : lo ≤ a <;> simp [h]
theorem withinF (a lo hi : Int) : impl_within.f a lo hi = some (decide (lo ≤ a) && decide (a ≤ hi)) := by
  unfold impl_within.f; by_cases h : lo ≤ a <;> simp [h]

/-- Values are valid: one to eight, rising, each from 1 to 500. -/
def VV (l : List Int) : Prop :=
  1 ≤ l.length ∧ l.length ≤ 8 ∧ (∀ j, j < l.length → 1 ≤ l.getD j 0 ∧ l.getD j 0 ≤ 500) ∧ (∀ j, 0 < j → j < l.length → l.getD (j - 1) 0 < l.getD j 0)

theorem specVV_l0 (l : List Int) (hb : l.length ≤ 17592186044415) : ∀ d i, l.length - i = d → i ≤ l.length →
    ∃ r, Ev (fun k => spec_l01Values.l0 k l (i : Int)) r ∧ (r = true ↔ (∀ j, i ≤ j → j < l.length → (1 ≤ l.getD j 0 ∧ l.getD j 0 ≤ 500) ∧ (0 < j → l.getD (j - 1) 0 < l.getD j 0)) ∧ 1 ≤ l.length ∧ l.length ≤ 8) := by
  intro d
  induction d with
  | zero =>
    intro i hd hi
    refine ⟨decide (1 ≤ l.length) && decide (l.length ≤ 8), Ev.step (f := fun _ => some (decide (1 ≤ l.length) && decide (l.length ≤ 8))) (fun k => ?_) (Ev.now _), ?_⟩
    · rw [spec_l01Values.l0, if_neg (by omega), inF, Option.bind_some]
      congr 2 <;> (rw [decide_eq_decide]; omega)
    · simp only [Bool.and_eq_true, decide_eq_true_eq]
      exact ⟨fun h => ⟨fun j h1 h2 => by omega, h⟩, fun h => h.2⟩
  | succ d ih =>
    intro i hd hi
    have hlt : i < l.length := by omega
    by_cases hin : 1 ≤ l.getD i 0 ∧ l.getD i 0 ≤ 500
    · have e1 : (decide (1 ≤ l.getD i 0) && decide (l.getD i 0 ≤ 500)) = true := by simp only [hin.1, hin.2, decide_true, Bool.and_self]
      rcases Nat.eq_zero_or_pos i with h0 | h0
      · subst h0
        obtain ⟨r, hr, hi'⟩ := ih 1 (by omega) (by omega)
        refine ⟨r, Ev.step (fun k => ?_) hr, ?_⟩
        · rw [spec_l01Values.l0, if_pos (by omega), if_pos (by omega), rdN, inF, Option.bind_some, if_pos e1, if_neg (by omega), wN 0 (by omega)]
        · rw [hi']
          refine ⟨fun h => ⟨fun j h1 h2 => ?_, h.2⟩, fun h => ⟨fun j h1 h2 => h.1 j (by omega) h2, h.2⟩⟩
          rcases Nat.eq_zero_or_pos j with e | e
          · subst e; exact ⟨hin, fun h => absurd h (Nat.lt_irrefl 0)⟩
          · exact h.1 j e h2
      · have e2 : wrap64 ((i : Int) - 1) = ((i - 1 : Nat) : Int) := by rw [w64 (by omega) (by omega)]; omega
        by_cases hle : l.getD i 0 ≤ l.getD (i - 1) 0
        · refine ⟨false, Ev.step (f := fun _ => some false) (fun k => ?_) (Ev.now _), ?_⟩
          · rw [spec_l01Values.l0, if_pos (by omega), if_pos (by omega), rdN, inF, Option.bind_some, if_pos e1, if_pos (by omega), e2, if_pos (by omega), if_pos (by omega), rdN, if_pos hle]
          · simp only [Bool.false_eq_true, false_iff]
            intro h
            have := (h.1 i (Nat.le_refl _) hlt).2 h0
            omega
        · obtain ⟨r, hr, hi'⟩ := ih (i + 1) (by omega) (by omega)
          refine ⟨r, Ev.step (fun k => ?_) hr, ?_⟩
          · rw [spec_l01Values.l0, if_pos (by omega), if_pos (by omega), rdN, inF, Option.bind_some, if_pos e1, if_pos (by omega), e2, if_pos (by omega), if_pos (by omega), rdN, if_neg hle, wN i (by omega)]
          · rw [hi']
            refine ⟨fun h => ⟨fun j h1 h2 => ?_, h.2⟩, fun h => ⟨fun j h1 h2 => h.1 j (by omega) h2, h.2⟩⟩
            rcases Nat.eq_or_lt_of_le h1 with e | e
            · subst e; exact ⟨hin, fun _ => by omega⟩
            · exact h.1 j e h2
    · have e1 : ¬ ((decide (1 ≤ l.getD i 0) && decide (l.getD i 0 ≤ 500)) = true) := by simpa using hin
      refine ⟨false, Ev.step (f := fun _ => some false) (fun k => ?_) (Ev.now _), ?_⟩
      · rw [spec_l01Values.l0, if_pos (by omega), if_pos (by omega), rdN, inF, Option.bind_some, if_neg e1]
      · simp only [Bool.false_eq_true, false_iff]
        intro h
        exact hin (h.1 i (Nat.le_refl _) hlt).1

theorem specVV (l : List Int) (hb : l.length ≤ 17592186044415) : ∃ r, Ev (fun k => spec_l01Values.f k l) r ∧ (r = true ↔ VV l) := by
  obtain ⟨r, hr, hi⟩ := specVV_l0 l hb _ 0 rfl (Nat.zero_le _)
  refine ⟨r, hr, hi.trans ⟨fun h => ⟨h.2.1, h.2.2, fun j hj => (h.1 j (Nat.zero_le _) hj).1, fun j h0 hj => (h.1 j (Nat.zero_le _) hj).2 h0⟩, fun h => ⟨fun j _ hj => ⟨h.2.2.1 j hj, fun h0 => h.2.2.2 j h0 hj⟩, h.1, h.2.1⟩⟩⟩

theorem rising_l0 (l : List Int) (hb : l.length ≤ 17592186044415) : ∀ d i, l.length - i = d → 1 ≤ i →
    ∃ r, Ev (fun k => impl_isRising.l0 k l (i : Int)) r ∧ (r = true ↔ (∀ j, i ≤ j → j < l.length → l.getD (j - 1) 0 < l.getD j 0)) := by
  intro d
  induction d with
  | zero =>
    intro i hd h1
    refine ⟨true, Ev.step (f := fun _ => some true) (fun k => ?_) (Ev.now _), ?_⟩
    · rw [impl_isRising.l0, if_neg (by omega)]
    · exact ⟨fun _ j h1 h2 => by omega, fun _ => rfl⟩
  | succ d ih =>
    intro i hd h1
    have hlt : i < l.length := by omega
    have e2 : wrap64 ((i : Int) - 1) = ((i - 1 : Nat) : Int) := by rw [w64 (by omega) (by omega)]; omega
    by_cases hle : l.getD i 0 ≤ l.getD (i - 1) 0
    · refine ⟨false, Ev.step (f := fun _ => some false) (fun k => ?_) (Ev.now _), ?_⟩
      · rw [impl_isRising.l0, if_pos (by omega), if_pos (by omega), e2, if_pos (by omega), if_pos (by omega), rdN, rdN, if_pos hle]
      · simp only [Bool.false_eq_true, false_iff]
        intro h
        have := h i (Nat.le_refl _) hlt
        omega
    · obtain ⟨r, hr, hi'⟩ := ih (i + 1) (by omega) (by omega)
      refine ⟨r, Ev.step (fun k => ?_) hr, ?_⟩
      · rw [impl_isRising.l0, if_pos (by omega), if_pos (by omega), e2, if_pos (by omega), if_pos (by omega), rdN, rdN, if_neg hle, wN i (by omega)]
      · rw [hi']
        refine ⟨fun h j h1 h2 => ?_, fun h j h1 h2 => h j (by omega) h2⟩
        rcases Nat.eq_or_lt_of_le h1 with e | e
        · subst e; omega
        · exact h j e h2
/-- Whether numbers rise. -/
theorem risingI (l : List Int) (hb : l.length ≤ 17592186044415) : ∃ r, Ev (fun k => impl_isRising.f k l) r ∧ (r = true ↔ (∀ j, 0 < j → j < l.length → l.getD (j - 1) 0 < l.getD j 0)) :=
  rising_l0 l hb _ 1 rfl (Nat.le_refl _)

theorem all_getD (p : Int → Bool) (l : List Int) : l.all p = true ↔ ∀ j, j < l.length → p (l.getD j 0) = true := by
  rw [List.all_eq_true]
  constructor
  · exact fun h j hj => h _ (getD_mem l j hj)
  · intro h x hx
    obtain ⟨j, hj, e⟩ := List.getElem_of_mem hx
    have := h j hj
    rwa [getD_eq l j hj, e] at this

theorem implVV (l : List Int) (hb : l.length ≤ 17592186044415) : ∃ r, Ev (fun k => impl_ValidValues.f k l) r ∧ (r = true ↔ VV l) := by
  obtain ⟨r, hr, hi⟩ := risingI l hb
  obtain ⟨K, hr⟩ := EvG hr
  have hs : impl_size_int64.f l = some (l.length : Int) := rfl
  by_cases h1 : 1 ≤ l.length ∧ l.length ≤ 8
  · have e1 : (decide ((1 : Int) ≤ (l.length : Int)) && decide ((l.length : Int) ≤ 8)) = true := by
      simp only [Bool.and_eq_true, decide_eq_true_eq]; omega
    by_cases h2 : (l.all fun x => decide (1 ≤ x) && decide (x ≤ 500)) = true
    · refine ⟨r, EvI K fun k hk => ?_, ?_⟩
      · rw [impl_ValidValues.f, hs, Option.bind_some, withinF, Option.bind_some, if_pos e1, impl_areWithin.f, Option.bind_some, if_pos h2, hr k hk]; rfl
      · rw [hi]
        rw [all_getD] at h2
        refine ⟨fun h => ⟨h1.1, h1.2, fun j hj => by simpa using h2 j hj, h⟩, fun h => h.2.2.2⟩
    · refine ⟨false, EvI 0 fun k hk => ?_, ?_⟩
      · rw [impl_ValidValues.f, hs, Option.bind_some, withinF, Option.bind_some, if_pos e1, impl_areWithin.f, Option.bind_some, if_neg h2]
      · simp only [Bool.false_eq_true, false_iff]
        intro h
        rw [all_getD] at h2
        exact h2 fun j hj => by simpa using h.2.2.1 j hj
  · have e1 : ¬ ((decide ((1 : Int) ≤ (l.length : Int)) && decide ((l.length : Int) ≤ 8)) = true) := by
      simp only [Bool.and_eq_true, decide_eq_true_eq]; omega
    refine ⟨false, EvI 0 fun k hk => ?_, ?_⟩
    · rw [impl_ValidValues.f, hs, Option.bind_some, withinF, Option.bind_some, if_neg e1]
    · simp only [Bool.false_eq_true, false_iff]
      exact fun h => h1 ⟨h.1, h.2.1⟩

/-- Both say the same of values. -/
theorem bothVV (l : List Int) (hb : l.length ≤ 17592186044415) : ∃ r, Ev (fun k => spec_l01Values.f k l) r ∧ Ev (fun k => impl_ValidValues.f k l) r ∧ (r = true ↔ VV l) := by
  obtain ⟨r, h1, h2⟩ := specVV l hb
  obtain ⟨r', h1', h2'⟩ := implVV l hb
  obtain rfl : r = r' := by rw [Bool.eq_iff_iff, h2, h2']
  exact ⟨r, h1, h1', h2⟩

/-- Both give the same code to values and a number from 0 on: 0 just where all is well. -/
theorem bothCode (l : List Int) (n most : Int) (hb : l.length ≤ 17592186044415) : ∃ c, Ev (fun k => spec_l01Asked.f k l (decide (0 ≤ n) && decide (n ≤ most))) c ∧ Ev (fun k => impl_valuesCode.f k l n most) c ∧ (c = 0 ↔ VV l ∧ 0 ≤ n ∧ n ≤ most) := by
  obtain ⟨r, h1, h2, h3⟩ := bothVV l hb
  obtain ⟨K1, h1⟩ := EvG h1
  obtain ⟨K2, h2⟩ := EvG h2
  cases r with
  | false =>
    refine ⟨1, EvI K1 fun k hk => ?_, EvI K2 fun k hk => ?_, ?_⟩
    · rw [spec_l01Asked.f, h1 k hk]; rfl
    · rw [impl_valuesCode.f, h2 k hk]; rfl
    · constructor
      · intro h; cases h
      · intro h; exact absurd (h3.2 h.1) (by simp)
  | true =>
    have hv := h3.1 rfl
    by_cases hn : 0 ≤ n ∧ n ≤ most
    · have e : (decide (0 ≤ n) && decide (n ≤ most)) = true := by simp [hn.1, hn.2]
      refine ⟨0, EvI K1 fun k hk => ?_, EvI K2 fun k hk => ?_, ⟨fun _ => ⟨hv, hn.1, hn.2⟩, fun _ => rfl⟩⟩
      · rw [spec_l01Asked.f, h1 k hk, e]; rfl
      · rw [impl_valuesCode.f, h2 k hk, Option.bind_some, if_pos rfl, withinF, Option.bind_some, e]; rfl
    · have e : (decide (0 ≤ n) && decide (n ≤ most)) = false := by
        rw [Bool.eq_false_iff]; intro h; simp at h; exact hn h
      refine ⟨2, EvI K1 fun k hk => ?_, EvI K2 fun k hk => ?_, ?_⟩
      · rw [spec_l01Asked.f, h1 k hk, e]; rfl
      · rw [impl_valuesCode.f, h2 k hk, Option.bind_some, if_pos rfl, withinF, Option.bind_some, e]; rfl
      · constructor
        · intro h; cases h
        · intro h; exact absurd h.2 hn
theorem postageF (n : Int) : spec_l01Postage.f n = some (decide (0 ≤ n) && decide (n ≤ 1000)) := by
  rw [spec_l01Postage.f, inF]; rfl

set_option linter.unusedVariables false
set_option linter.unusedSimpArgs false

/-- The numbers of a stock are sixteen bits wide. -/
def Wf (l : List S56) : Prop := ∀ x ∈ l, (-32768 ≤ x.f0 ∧ x.f0 ≤ 32767) ∧ (-32768 ≤ x.f1 ∧ x.f1 ≤ 32767)
theorem Wf.at {l : List S56} (h : Wf l) (i : Nat) (hi : i < l.length) : (-32768 ≤ (l.getD i z56).f0 ∧ (l.getD i z56).f0 ≤ 32767) ∧ (-32768 ≤ (l.getD i z56).f1 ∧ (l.getD i z56).f1 ≤ 32767) := by
  rw [getD_eqG z56 l i hi]; exact h _ (List.getElem_mem hi)
theorem Wf.cv {l : List S58} (h : ∀ x ∈ l, (Lit.int .i16 x.f0).wf = true ∧ (Lit.int .i16 x.f1).wf = true) : Wf (l.map cv) := by
  intro x hx
  obtain ⟨y, hy, rfl⟩ := List.mem_map.1 hx
  exact ⟨bounds_i16 (h y hy).1, bounds_i16 (h y hy).2⟩
theorem map_getD (l : List S56) (f : S56 → Int) (i : Nat) (hi : i < l.length) : (l.map f).getD i 0 = f (l.getD i z56) := by
  rw [getD_eq _ i (by rw [List.length_map]; exact hi), List.getElem_map, getD_eqG z56 l i hi]
/-- A stock is valid. -/
def SV (l : List S56) : Prop :=
  l.length ≤ 8 ∧ (∀ j, j < l.length → (1 ≤ (l.getD j z56).f0 ∧ (l.getD j z56).f0 ≤ 500) ∧ (0 ≤ (l.getD j z56).f1 ∧ (l.getD j z56).f1 ≤ 50)) ∧ (∀ j, 0 < j → j < l.length → (l.getD (j - 1) z56).f0 < (l.getD j z56).f0)

theorem purse_l0 (l : List S56) (hw : Wf l) (hb : l.length ≤ 4398046511104) : ∀ d i (x y : List Int), l.length - i = d → i ≤ l.length → x = (l.take i).map S56.f0 → y = (l.take i).map S56.f1 →
    Ev (fun k => impl_purseOf.l0 k l (l.length : Int) (i : Int) x y) (l.map S56.f0, l.map S56.f1) := by
  intro d
  induction d with
  | zero =>
    intro i x y hd hi hx hy
    obtain rfl : i = l.length := by omega
    rw [List.take_length] at hx hy
    subst hx hy
    refine Ev.step (f := fun _ => some (l.map S56.f0, l.map S56.f1)) (fun k => ?_) (Ev.now _)
    rw [impl_purseOf.l0, if_neg (by omega)]
  | succ d ih =>
    intro i x y hd hi hx hy
    have hlt : i < l.length := by omega
    obtain ⟨h0, h1⟩ := hw.at i hlt
    have e0 : wrap64 (l.getD i z56).f0 = (l.getD i z56).f0 := w64 (by omega) (by omega)
    have e1 : wrap64 (l.getD i z56).f1 = (l.getD i z56).f1 := w64 (by omega) (by omega)
    have et : l.take (i + 1) = l.take i ++ [l.getD i z56] := by
      rw [List.take_add_one, List.getD_eq_getElem?_getD, List.getElem?_eq_getElem hlt]; rfl
    have lx : x.length = i := by rw [hx, List.length_map, List.length_take]; omega
    have ly : y.length = i := by rw [hy, List.length_map, List.length_take]; omega
    refine Ev.step (fun k => ?_) (ih (i + 1) (x ++ [(l.getD i z56).f0]) (y ++ [(l.getD i z56).f1]) (by omega) (by omega) (by rw [et, List.map_append, ← hx]; rfl) (by rw [et, List.map_append, ← hy]; rfl))
    rw [impl_purseOf.l0, if_pos (by omega), if_pos (by omega), if_pos (by omega), rdS, e0, e1, Option.bind_some, if_pos (by simp; omega), Option.bind_some, if_pos (by simp; omega), wN i (by omega)]
theorem purseF (l : List S56) (hw : Wf l) (hb : l.length ≤ 4398046511104) : Ev (fun k => impl_purseOf.f k l) (l.map S56.f0, l.map S56.f1) :=
  purse_l0 l hw hb _ 0 [] [] rfl (Nat.zero_le _) rfl rfl

theorem stock_l0 (l : List S56) (hw : Wf l) (hb : l.length ≤ 4398046511104) : ∀ d i, l.length - i = d → i ≤ l.length →
    ∃ r, Ev (fun k => spec_l01Stock.l0 k l (i : Int)) r ∧ (r = true ↔ (∀ j, i ≤ j → j < l.length → ((1 ≤ (l.getD j z56).f0 ∧ (l.getD j z56).f0 ≤ 500) ∧ (0 ≤ (l.getD j z56).f1 ∧ (l.getD j z56).f1 ≤ 50)) ∧ (0 < j → (l.getD (j - 1) z56).f0 < (l.getD j z56).f0)) ∧ l.length ≤ 8) := by
  intro d
  induction d with
  | zero =>
    intro i hd hi
    refine ⟨decide ((l.length : Int) ≤ 8), Ev.step (f := fun _ => some (decide ((l.length : Int) ≤ 8))) (fun k => ?_) (Ev.now _), ?_⟩
    · rw [spec_l01Stock.l0, if_neg (by omega)]
    · rw [decide_eq_true_eq]
      exact ⟨fun h => ⟨fun j h1 h2 => by omega, by omega⟩, fun h => by have := h.2; omega⟩
  | succ d ih =>
    intro i hd hi
    have hlt : i < l.length := by omega
    obtain ⟨h0, h1⟩ := hw.at i hlt
    have e0 : wrap64 (l.getD i z56).f0 = (l.getD i z56).f0 := w64 (by omega) (by omega)
    have e1 : wrap64 (l.getD i z56).f1 = (l.getD i z56).f1 := w64 (by omega) (by omega)
    have estep : ∀ k, spec_l01Stock.l0 (k + 1) l (i : Int) = spec_l01Stock.j1 k l (i : Int) (!((decide (1 ≤ (l.getD i z56).f0) && decide ((l.getD i z56).f0 ≤ 500)) && (decide (0 ≤ (l.getD i z56).f1) && decide ((l.getD i z56).f1 ≤ 50)))) := fun k => by
      rw [spec_l01Stock.l0, if_pos (by omega), if_pos (by omega), rdS, e0, e1, inF, Option.bind_some]
      cases (decide (1 ≤ (l.getD i z56).f0) && decide ((l.getD i z56).f0 ≤ 500)) with
      | false => rw [if_neg (by simp), Bool.false_and]; rfl
      | true => rw [if_pos rfl, inF, Option.bind_some, Bool.true_and]
    by_cases hin : (1 ≤ (l.getD i z56).f0 ∧ (l.getD i z56).f0 ≤ 500) ∧ (0 ≤ (l.getD i z56).f1 ∧ (l.getD i z56).f1 ≤ 50)
    · have eb : (!((decide (1 ≤ (l.getD i z56).f0) && decide ((l.getD i z56).f0 ≤ 500)) && (decide (0 ≤ (l.getD i z56).f1) && decide ((l.getD i z56).f1 ≤ 50)))) = false := by
        simp only [hin.1.1, hin.1.2, hin.2.1, hin.2.2, decide_true, Bool.and_self, Bool.not_true]
      rw [eb] at estep
      rcases Nat.eq_zero_or_pos i with hz | hz
      · subst hz
        obtain ⟨r, hr, hi'⟩ := ih 1 (by omega) (by omega)
        refine ⟨r, Ev.step estep (Ev.step (g := fun k => spec_l01Stock.j1 k l ((0 : Nat) : Int) false) (fun k => ?_) hr), ?_⟩
        · rw [spec_l01Stock.j1, if_neg (by simp), if_neg (by omega), wN 0 (by omega)]
        · rw [hi']
          refine ⟨fun h => ⟨fun j q1 q2 => ?_, h.2⟩, fun h => ⟨fun j q1 q2 => h.1 j (by omega) q2, h.2⟩⟩
          rcases Nat.eq_zero_or_pos j with e | e
          · subst e; exact ⟨hin, fun h => absurd h (Nat.lt_irrefl 0)⟩
          · exact h.1 j e q2
      · have e2 : wrap64 ((i : Int) - 1) = ((i - 1 : Nat) : Int) := by rw [w64 (by omega) (by omega)]; omega
        by_cases hle : (l.getD i z56).f0 ≤ (l.getD (i - 1) z56).f0
        · refine ⟨false, Ev.step estep (Ev.step (f := fun _ => some false) (g := fun k => spec_l01Stock.j1 k l (i : Int) false) (fun k => ?_) (Ev.now _)), ?_⟩
          · rw [spec_l01Stock.j1, if_neg (by simp), if_pos (by omega), if_pos (by omega), if_pos (by omega), e2, if_pos (by omega), if_pos (by omega), rdS, rdS, if_pos hle]
          · simp only [Bool.false_eq_true, false_iff]
            intro h
            have := (h.1 i (Nat.le_refl _) hlt).2 hz
            omega
        · obtain ⟨r, hr, hi'⟩ := ih (i + 1) (by omega) (by omega)
          refine ⟨r, Ev.step estep (Ev.step (g := fun k => spec_l01Stock.j1 k l (i : Int) false) (fun k => ?_) hr), ?_⟩
          · rw [spec_l01Stock.j1, if_neg (by simp), if_pos (by omega), if_pos (by omega), if_pos (by omega), e2, if_pos (by omega), if_pos (by omega), rdS, rdS, if_neg hle, wN i (by omega)]
          · rw [hi']
            refine ⟨fun h => ⟨fun j q1 q2 => ?_, h.2⟩, fun h => ⟨fun j q1 q2 => h.1 j (by omega) q2, h.2⟩⟩
            rcases Nat.eq_or_lt_of_le q1 with e | e
            · subst e; exact ⟨hin, fun _ => by omega⟩
            · exact h.1 j e q2
    · have eb : (!((decide (1 ≤ (l.getD i z56).f0) && decide ((l.getD i z56).f0 ≤ 500)) && (decide (0 ≤ (l.getD i z56).f1) && decide ((l.getD i z56).f1 ≤ 50)))) = true := by
        rw [Bool.not_eq_true']
        apply Classical.byContradiction
        intro hn
        apply hin
        simpa [and_assoc] using hn
      rw [eb] at estep
      refine ⟨false, Ev.step estep (Ev.step (f := fun _ => some false) (g := fun k => spec_l01Stock.j1 k l (i : Int) true) (fun k => ?_) (Ev.now _)), ?_⟩
      · rw [spec_l01Stock.j1, if_pos rfl]
      · simp only [Bool.false_eq_true, false_iff]
        intro h
        exact hin (h.1 i (Nat.le_refl _) hlt).1

theorem specStock (l : List S56) (hw : Wf l) (hb : l.length ≤ 4398046511104) : ∃ r, Ev (fun k => spec_l01Stock.f k l) r ∧ (r = true ↔ SV l) := by
  obtain ⟨r, hr, hi⟩ := stock_l0 l hw hb _ 0 rfl (Nat.zero_le _)
  exact ⟨r, hr, hi.trans ⟨fun h => ⟨h.2, fun j hj => (h.1 j (Nat.zero_le _) hj).1, fun j h0 hj => (h.1 j (Nat.zero_le _) hj).2 h0⟩, fun h => ⟨fun j _ hj => ⟨h.2.1 j hj, fun h0 => h.2.2 j h0 hj⟩, h.1⟩⟩⟩

theorem areW (l : List Int) (a b : Int) : ∃ r, impl_areWithin.f l a b = some r ∧ (r = true ↔ ∀ j, j < l.length → a ≤ l.getD j 0 ∧ l.getD j 0 ≤ b) := by
  refine ⟨_, rfl, ?_⟩
  rw [all_getD]
  simp only [Bool.and_eq_true, decide_eq_true_eq]

theorem implStock (l : List S56) (hw : Wf l) (hb : l.length ≤ 4398046511104) : ∃ r, Ev (fun k => impl_ValidStock.f k l) r ∧ (r = true ↔ SV l) := by
  obtain ⟨K1, h1⟩ := EvG (purseF l hw hb)
  obtain ⟨r1, a1, b1⟩ := areW (l.map S56.f0) 1 500
  obtain ⟨r2, a2, b2⟩ := risingI (l.map S56.f0) (by rw [List.length_map]; omega)
  obtain ⟨r3, a3, b3⟩ := areW (l.map S56.f1) 0 50
  obtain ⟨K2, a2⟩ := EvG a2
  rw [List.length_map] at b1 b2 b3
  have c1 : r1 = true ↔ ∀ j, j < l.length → 1 ≤ (l.getD j z56).f0 ∧ (l.getD j z56).f0 ≤ 500 := by
    rw [b1]
    exact ⟨fun h j hj => by have := h j hj; rwa [map_getD l S56.f0 j hj] at this, fun h j hj => by rw [map_getD l S56.f0 j hj]; exact h j hj⟩
  have c3 : r3 = true ↔ ∀ j, j < l.length → 0 ≤ (l.getD j z56).f1 ∧ (l.getD j z56).f1 ≤ 50 := by
    rw [b3]
    exact ⟨fun h j hj => by have := h j hj; rwa [map_getD l S56.f1 j hj] at this, fun h j hj => by rw [map_getD l S56.f1 j hj]; exact h j hj⟩
  have c2 : r2 = true ↔ ∀ j, 0 < j → j < l.length → (l.getD (j - 1) z56).f0 < (l.getD j z56).f0 := by
    rw [b2]
    exact ⟨fun h j h0 hj => by have := h j h0 hj; rwa [map_getD l S56.f0 j hj, map_getD l S56.f0 (j - 1) (by omega)] at this, fun h j h0 hj => by rw [map_getD l S56.f0 j hj, map_getD l S56.f0 (j - 1) (by omega)]; exact h j h0 hj⟩
  refine ⟨decide (l.length ≤ 8) && r1 && r2 && r3, EvI (K1 + K2) fun k hk => ?_, ?_⟩
  · rw [impl_ValidStock.f, h1 k (by omega), Option.bind_some]
    by_cases h8 : l.length ≤ 8
    · rw [if_pos (by omega), a1, Option.bind_some, a2 k (by omega), a3]
      simp only [h8, decide_true, Bool.true_and, Option.bind_some]
      cases r1 <;> cases r2 <;> rfl
    · rw [if_neg (by omega)]
      simp only [h8, decide_false, Bool.false_and]
  · simp only [Bool.and_eq_true, decide_eq_true_eq]
    rw [c1, c2, c3]
    exact ⟨fun h => ⟨h.1.1.1, fun j hj => ⟨h.1.1.2 j hj, h.2 j hj⟩, h.1.2⟩, fun h => ⟨⟨⟨h.1, fun j hj => (h.2.1 j hj).1⟩, h.2.2⟩, fun j hj => (h.2.1 j hj).2⟩⟩

theorem bothStock (l : List S56) (hw : Wf l) (hb : l.length ≤ 4398046511104) : ∃ r, Ev (fun k => spec_l01Stock.f k l) r ∧ Ev (fun k => impl_ValidStock.f k l) r ∧ (r = true ↔ SV l) := by
  obtain ⟨r, h1, h2⟩ := specStock l hw hb
  obtain ⟨s, h3, h4⟩ := implStock l hw hb
  have : r = s := Bool.eq_iff_iff.2 (h2.trans h4.symm)
  subst this
  exact ⟨r, h1, h3, h2⟩

set_option linter.unusedVariables false
set_option linter.unusedSimpArgs false

/-- The marks of the stamp at a place. -/
def mkE (m : Nat) : S56 := ⟨IntKind.i16.wrap (m : Int), IntKind.i16.wrap ((m + 1 : Nat) : Int)⟩
def mkS (n : Nat) : List S56 := (List.range n).map fun i => mkE (1 + 2 * i)
theorem mkS_len (n : Nat) : (mkS n).length = n := by simp [mkS]
theorem mkS_at (n i : Nat) (h : i < n) : (mkS n).getD i z56 = mkE (1 + 2 * i) := by
  simp [mkS, List.getD_eq_getElem?_getD, h]
theorem markS_l0 (n : Nat) (hb : n ≤ 2000000) : ∀ d i x, n - i = d → i ≤ n → x.length = n → (∀ j, j < i → x.getD j z56 = mkE (1 + 2 * j)) →
    Ev (fun k => laws_markStampS.l0 k x ((1 + 2 * i : Nat) : Int) (i : Int)) (((1 + 2 * n : Nat) : Int), mkS n) := by
  intro d
  induction d with
  | zero =>
    intro i x hd hi hx hj
    obtain rfl : i = n := by omega
    refine Ev.step (f := fun _ => some (((1 + 2 * i : Nat) : Int), x)) (fun k => ?_) ?_
    · rw [laws_markStampS.l0, if_neg (by omega)]
    · have : x = mkS i := list_extG z56 x _ (by rw [mkS_len]; exact hx) (fun j h => by rw [mkS_len] at h; rw [hj j h, mkS_at i j h])
      rw [this]; exact Ev.now _
  | succ d ih =>
    intro i x hd hi hx hj
    refine Ev.step (fun k => ?_) (ih (i + 1) (x.set i (mkE (1 + 2 * i))) (by omega) (by omega) (by simpa using hx) ?_)
    · rw [laws_markStampS.l0, if_pos (by omega), if_pos (by omega), Option.bind_some]
      rw [wN (1 + 2 * i) (by omega), wN (1 + 2 * i + 1) (by omega), wN i (by omega)]
      simp only [Int.toNat_natCast, rdS]
      rw [getD_setG z56 _ i i _ (by rw [hx]; omega), if_pos rfl, List.set_set]
      rfl
    · intro j h
      rw [getD_setG z56 x i j _ (by omega)]
      by_cases e : i = j
      · rw [if_pos e, e]
      · rw [if_neg e]; exact hj j (by omega)
theorem markS (l : List S56) (hb : l.length ≤ 2000000) : Ev (fun k => laws_markStampS.f k l 1) (((1 + 2 * l.length : Nat) : Int), mkS l.length) :=
  markS_l0 l.length hb _ 0 l rfl (Nat.zero_le _) rfl (fun j h => absurd h (Nat.not_lt_zero _))
theorem heldS_l0 (n : Nat) (hb : n ≤ 2000000) : ∀ d i, n - i = d → i ≤ n → Ev (fun k => laws_heldStampS.l0 k (mkS n) ((1 + 2 * i : Nat) : Int) (i : Int)) ((1 + 2 * n : Nat) : Int) := by
  intro d
  induction d with
  | zero =>
    intro i hd hi
    obtain rfl : i = n := by omega
    refine Ev.step (f := fun _ => some (((1 + 2 * i : Nat) : Int))) (fun k => ?_) (Ev.now _)
    rw [laws_heldStampS.l0, mkS_len, if_neg (by omega)]
  | succ d ih =>
    intro i hd hi
    refine Ev.step (fun k => ?_) (ih (i + 1) (by omega) (by omega))
    rw [laws_heldStampS.l0, mkS_len, if_pos (by omega), if_pos (by omega), rdS, mkS_at n i (by omega), wN (1 + 2 * i) (by omega), wN (1 + 2 * i + 1) (by omega), wN i (by omega), if_pos (show (mkE (1 + 2 * i)).f0 = IntKind.i16.wrap ((1 + 2 * i : Nat) : Int) from rfl), if_pos (show (mkE (1 + 2 * i)).f1 = IntKind.i16.wrap ((1 + 2 * i + 1 : Nat) : Int) from rfl)]
    rfl
theorem heldS (n : Nat) (hb : n ≤ 2000000) : Ev (fun k => laws_heldStampS.f k (mkS n) 1) ((1 + 2 * n : Nat) : Int) :=
  heldS_l0 n hb _ 0 rfl (Nat.zero_le _)

set_option linter.unusedVariables false
set_option linter.unusedSimpArgs false

theorem take_l0 (n : List Int) (hb : n.length ≤ 4398046511104) : ∀ d i (x : List S56), n.length - i = d → i ≤ n.length → x.length = n.length →
    ∃ r, Ev (fun k => spec_l01Take.l0 k n x (i : Int)) r ∧ Ev (fun k => impl_without.l0 k x n (n.length : Int) (i : Int)) r ∧ r.length = n.length := by
  intro d
  induction d with
  | zero =>
    intro i x hd hi hx
    refine ⟨x, Ev.step (f := fun _ => some x) (fun k => ?_) (Ev.now _), Ev.step (f := fun _ => some x) (fun k => ?_) (Ev.now _), hx⟩
    · rw [spec_l01Take.l0, if_neg (by omega)]
    · rw [impl_without.l0, if_neg (by omega)]
  | succ d ih =>
    intro i x hd hi hx
    obtain ⟨r, h1, h2, h3⟩ := ih (i + 1) (x.set ((i : Int)).toNat (⟨(rd_T56 x (i : Int)).f0, IntKind.i16.wrap (((rd_T56 x (i : Int)).f1) - (IntKind.i16.wrap (rd n (i : Int))))⟩ : S56)) (by omega) (by omega) (by simpa using hx)
    refine ⟨r, Ev.step (fun k => ?_) h1, Ev.step (fun k => ?_) h2, h3⟩
    · rw [spec_l01Take.l0, if_pos (by omega), if_pos (by omega), if_pos (by omega), wN i (by omega)]
    · rw [impl_without.l0, if_pos (by omega), if_pos (by omega), if_pos (by omega), if_pos (by omega), wN i (by omega)]
theorem takeBoth (l : List S56) (n : List Int) (hb : n.length ≤ 4398046511104) (hl : l.length = n.length) :
    ∃ r, Ev (fun k => spec_l01Take.f k l n) r ∧ Ev (fun k => impl_without.f k l n) r ∧ r.length = l.length := by
  obtain ⟨r, h1, h2, h3⟩ := take_l0 n hb _ 0 l rfl (Nat.zero_le _) hl
  refine ⟨r, Ev.congr (fun k => ?_) h1, Ev.congr (fun k => ?_) h2, h3.trans hl.symm⟩
  · rw [spec_l01Take.f, Option.bind_some, if_pos (by simp; omega)]; rfl
  · rw [impl_without.f, impl_Stamp_83.f, Option.bind_some, if_pos (by simp; omega), Option.bind_some]; rfl

set_option linter.unusedVariables false
set_option linter.unusedSimpArgs false

theorem tk_spec0 (l : List S56) (n : List Int) (hb : n.length ≤ 4398046511104) : ∀ d i (f : Bool), n.length - i = d → i ≤ n.length →
    ∃ b : Bool, (b = true ↔ f = true ∧ ∀ j, i ≤ j → j < n.length → 0 ≤ n.getD j 0) ∧
      ∀ r, Ev (fun k => if b = true then spec_TakeFrom.l1 k l n 0 else some (([] : List S56), 2)) r → Ev (fun k => spec_TakeFrom.l0 k l n f (i : Int)) r := by
  intro d
  induction d with
  | zero =>
    intro i f hd hi
    refine ⟨f, ⟨fun h => ⟨h, fun j h1 h2 => by omega⟩, fun h => h.1⟩, fun r hr => Ev.step (fun k => ?_) hr⟩
    rw [spec_TakeFrom.l0, if_neg (by omega)]
  | succ d ih =>
    intro i f hd hi
    cases f with
    | true =>
      obtain ⟨b, hb1, hb2⟩ := ih (i + 1) (decide (rd n (i : Int) ≥ 0)) (by omega) (by omega)
      refine ⟨b, hb1.trans ⟨fun ⟨h1, h2⟩ => ⟨rfl, fun j h3 h4 => ?_⟩, fun ⟨_, h⟩ => ⟨by simp only [decide_eq_true_eq]; exact h i (Nat.le_refl _) (by omega), fun j h3 h4 => h j (by omega) h4⟩⟩, fun r hr => Ev.step (fun k => ?_) (hb2 r hr)⟩
      · by_cases e : j = i
        · subst e; have := of_decide_eq_true h1; rwa [rdN] at this
        · exact h2 j (by omega) h4
      · rw [spec_TakeFrom.l0, if_pos (by omega), if_pos rfl, if_pos (by omega), wN i (by omega)]
    | false =>
      obtain ⟨b, hb1, hb2⟩ := ih (i + 1) false (by omega) (by omega)
      refine ⟨b, hb1.trans ⟨fun ⟨h1, h2⟩ => (by simp at h1), fun ⟨h, _⟩ => (by simp at h)⟩, fun r hr => Ev.step (fun k => ?_) (hb2 r hr)⟩
      rw [spec_TakeFrom.l0, if_pos (by omega), if_neg (by simp), wN i (by omega)]
theorem tk_l1 (l : List S56) (n : List Int) (hb : n.length ≤ 4398046511104) (hl : l.length = n.length) (t : List S56) (h1 : Ev (fun k => spec_l01Take.f k l n) t) (h2 : Ev (fun k => impl_without.f k l n) t) (h3 : t.length ≤ l.length) : ∀ d i, n.length - i = d → i ≤ n.length →
    ∃ r, Ev (fun k => spec_TakeFrom.l1 k l n (i : Int)) r ∧ Ev (fun k => impl_TakeFrom.l0 k l n n (n.length : Int) (i : Int)) r ∧ r.1.length ≤ l.length := by
  intro d
  induction d with
  | zero =>
    intro i hd hi
    obtain ⟨K1, h1⟩ := EvG h1
    obtain ⟨K2, h2⟩ := EvG h2
    refine ⟨(t, 0), Ev.step (f := fun k => (spec_l01Take.f k l n).bind fun t => some (t, 0)) (fun k => ?_) (EvI K1 fun k hk => by rw [h1 k hk, Option.bind_some]), Ev.step (f := fun k => (impl_without.f k l n).bind fun t => some (t, 0)) (fun k => ?_) (EvI K2 fun k hk => by rw [h2 k hk, Option.bind_some]), h3⟩
    · rw [spec_TakeFrom.l1, if_neg (by omega)]
    · rw [impl_TakeFrom.l0, if_neg (by omega)]
  | succ d ih =>
    intro i hd hi
    by_cases c : rd n (i : Int) > wrap64 (rd_T56 l (i : Int)).f1
    · refine ⟨([], 4), Ev.step (f := fun _ => some (([] : List S56), (4 : Int))) (fun k => ?_) (Ev.now _), Ev.step (f := fun _ => some (([] : List S56), (4 : Int))) (fun k => ?_) (Ev.now _), Nat.zero_le _⟩
      · rw [spec_TakeFrom.l1, if_pos (by omega), if_pos (by omega), if_pos (by omega), if_pos c]
      · rw [impl_TakeFrom.l0, if_pos (by omega), if_pos (by omega), if_pos (by omega), if_pos (by omega), if_pos c]
    · obtain ⟨r, h4, h5, h6⟩ := ih (i + 1) (by omega) (by omega)
      refine ⟨r, Ev.step (fun k => ?_) h4, Ev.step (fun k => ?_) h5, h6⟩
      · rw [spec_TakeFrom.l1, if_pos (by omega), if_pos (by omega), if_pos (by omega), if_neg c, wN i (by omega)]
      · rw [impl_TakeFrom.l0, if_pos (by omega), if_pos (by omega), if_pos (by omega), if_pos (by omega), if_neg c, wN i (by omega)]
theorem both_take (l : List S56) (n : List Int) (hw : Wf l) (hb : l.length ≤ 4398046511104) (hn : n.length ≤ 4398046511104) :
    ∃ r, Ev (fun k => spec_TakeFrom.f k l n) r ∧ Ev (fun k => impl_TakeFrom.f k l n) r ∧ r.1.length ≤ l.length := by
  obtain ⟨c, h1, h2, _⟩ := bothStock l hw hb
  obtain ⟨K1, h1⟩ := EvG h1
  obtain ⟨K2, h2⟩ := EvG h2
  cases c with
  | false =>
    refine ⟨([], 1), EvI K1 fun k hk => ?_, EvI K2 fun k hk => ?_, Nat.zero_le _⟩
    · rw [spec_TakeFrom.f, h1 k hk, Option.bind_some, if_neg (by simp)]
    · rw [impl_TakeFrom.f, h2 k hk, Option.bind_some, if_neg (by simp)]
  | true =>
    obtain ⟨b, hb1, hb2⟩ := tk_spec0 l n hn _ 0 ((n.length : Int) == (l.length : Int)) rfl (Nat.zero_le _)
    by_cases e : n.length = l.length
    · have ee : (n.length : Int) = (l.length : Int) := by omega
      have hany : (n.any fun x => decide (x < 0)) = !b := by
        cases b with
        | true =>
          have := hb1.1 rfl
          rw [Bool.not_true, List.any_eq_false]
          intro x hx
          obtain ⟨j, hj, rfl⟩ := List.mem_iff_getElem.1 hx
          have := this.2 j (Nat.zero_le _) hj
          rw [getD_eq n j hj] at this
          simpa using this
        | false =>
          rw [Bool.not_false, List.any_eq_true]
          apply Classical.byContradiction
          intro hne
          have : (false : Bool) = true := hb1.2 ⟨by simp [ee], fun j _ hj => by
            apply Classical.byContradiction
            intro h0
            exact hne ⟨n.getD j 0, getD_mem n j hj, by simp only [decide_eq_true_eq]; omega⟩⟩
          simp at this
      cases b with
      | false =>
        obtain ⟨K3, h3⟩ := EvG (hb2 ([], 2) (EvI 0 fun k _ => by rw [if_neg (by simp)]))
        refine ⟨([], 2), EvI (K1 + K3) fun k hk => ?_, EvI K2 fun k hk => ?_, Nat.zero_le _⟩
        · rw [spec_TakeFrom.f, h1 k (by omega), Option.bind_some, if_pos rfl]; exact h3 k (by omega)
        · rw [impl_TakeFrom.f, h2 k (by omega), Option.bind_some, if_pos rfl, if_pos ee, slices_ContainsFunc_int64_int64_k.f, hany, Option.bind_some, Bool.not_false, if_pos rfl]
      | true =>
        obtain ⟨t, ht1, ht2, ht3⟩ := takeBoth l n hn e.symm
        obtain ⟨r, h5, h6, h7⟩ := tk_l1 l n hn e.symm t ht1 ht2 (by omega) _ 0 rfl (Nat.zero_le _)
        obtain ⟨K3, h3⟩ := EvG (hb2 r (Ev.congr (fun k => by rw [if_pos rfl]; rfl) h5))
        obtain ⟨K6, h6⟩ := EvG h6
        refine ⟨r, EvI (K1 + K3) fun k hk => ?_, EvI (K2 + K6) fun k hk => ?_, h7⟩
        · rw [spec_TakeFrom.f, h1 k (by omega), Option.bind_some, if_pos rfl]; exact h3 k (by omega)
        · rw [impl_TakeFrom.f, h2 k (by omega), Option.bind_some, if_pos rfl, if_pos ee, slices_ContainsFunc_int64_int64_k.f, hany, Option.bind_some, Bool.not_true, if_neg (by simp)]; exact h6 k (by omega)
    · have ee : ¬ (n.length : Int) = (l.length : Int) := by omega
      obtain rfl : b = false := by
        cases b with
        | false => rfl
        | true => have := (hb1.1 rfl).1; simp [ee] at this
      obtain ⟨K3, h3⟩ := EvG (hb2 ([], 2) (EvI 0 fun k _ => by rw [if_neg (by simp)]))
      refine ⟨([], 2), EvI (K1 + K3) fun k hk => ?_, EvI K2 fun k hk => ?_, Nat.zero_le _⟩
      · rw [spec_TakeFrom.f, h1 k (by omega), Option.bind_some, if_pos rfl]; exact h3 k (by omega)
      · rw [impl_TakeFrom.f, h2 k (by omega), Option.bind_some, if_pos rfl, if_neg ee]

theorem FnExactTakeFrom : laws_FnExactTakeFrom.Pure := by
  intro x n ⟨hx, hw⟩ ⟨hn, _⟩
  by_cases h0 : (n.length : Int) > 1048576
  · exact ⟨0, by rw [laws_FnExactTakeFrom.f, if_pos h0]⟩
  by_cases h1 : (x.length : Int) ≤ 1048576
  · obtain ⟨K1, e1⟩ := EvG (toS x (by omega))
    obtain ⟨K2, e2⟩ := EvG (toI n (by omega))
    obtain ⟨r, h3, h4, hr⟩ := both_take (x.map cv) n (Wf.cv hw) (by rw [List.length_map]; omega) (by omega)
    rw [List.length_map] at hr
    obtain ⟨K3, h3⟩ := EvG h3
    obtain ⟨K4, h4⟩ := EvG h4
    obtain ⟨K5, h5⟩ := EvG (eqS (x.map cv) (by rw [List.length_map]; omega))
    obtain ⟨K6, h6⟩ := EvG (eqI n (by omega))
    obtain ⟨K7, h7⟩ := EvG (eqS r.1 (by omega))
    obtain ⟨K8, h8⟩ := EvG (markS (x.map cv) (by rw [List.length_map]; omega))
    rw [List.length_map] at h8
    obtain ⟨K9, h9⟩ := EvG (markI n (1 + 2 * x.length) (by omega) (by omega))
    obtain ⟨K10, h10⟩ := EvG (markS r.1 (by omega))
    obtain ⟨K11, h11⟩ := EvG (heldS r.1.length (by omega))
    obtain ⟨a, c⟩ := r
    simp only at h3 h4 h7 h10 h11 hr
    refine ⟨K1 + K2 + K3 + K4 + K5 + K6 + K7 + K8 + K9 + K10 + K11 + 3, ?_⟩
    rw [laws_FnExactTakeFrom.f, if_neg h0, szS x _ (by omega) (by omega) hx, Option.bind_some, if_pos h1, if_neg (by omega),
      e1 _ (by omega), Option.bind_some, e2 _ (by omega), Option.bind_some, h3 _ (by omega), Option.bind_some, Option.bind_some, Option.bind_some, h4 _ (by omega), Option.bind_some, h7 _ (by omega), Option.bind_some, if_pos rfl, bne_self_eq_false,
      laws_FnExactTakeFrom.j0, if_neg (by simp), e1 _ (by omega), Option.bind_some, h5 _ (by omega), Option.bind_some, if_pos rfl, e2 _ (by omega), Option.bind_some, h6 _ (by omega), Option.bind_some, if_pos rfl,
      h8 _ (by omega), Option.bind_some, h9 _ (by omega), Option.bind_some, if_neg (by simp only; omega), h7 _ (by omega), Option.bind_some, if_pos rfl, bne_self_eq_false,
      laws_FnExactTakeFrom.j1, if_neg (by simp), h10 _ (by omega), Option.bind_some, h11 _ (by omega), Option.bind_some, if_neg (by omega), if_pos rfl,
      e1 _ (by omega), Option.bind_some, e2 _ (by omega), Option.bind_some, h4 _ (by omega), Option.bind_some, h7 _ (by omega), Option.bind_some, if_pos rfl, bne_self_eq_false,
      laws_FnExactTakeFrom.j2, if_neg (by simp), h11 _ (by omega), Option.bind_some, if_neg (by omega), if_pos rfl]
  · exact ⟨0, by rw [laws_FnExactTakeFrom.f, if_neg h0, szS x _ (by omega) (by omega) hx, Option.bind_some, if_neg h1, if_pos (by omega)]⟩

end Go.Proofs.Ytnhcdfikjfjkoaa.Pure

namespace Go.Proofs.Ytnhcdfikjfjkoaa.X
open Go.ChangeShapes Go.WideShapes Go.ChangeAt Go.RowKit Go.Proofs.YtnhcdfikjfjkoaaW.PrintWords Go.Deep
set_option linter.unusedVariables false

/-- What reads as data of type t is a value of kind d, and meets wf. -/
def Opens {α : Type} (P : Program) (t : TypeId) (d : Kd α) (wf : α → Prop) : Prop :=
  ∀ (H : Type) (enc : TypeId × Value → H) (W : World) (held : Bool) (fuel : Nat) (cs : List Value) (x : DataW H × List MemPlace), DataW.trod enc P W 0 (fun _ => true) held fuel t cs = some x → ∃ a, d.K W a cs ∧ wf a

theorem Opens.int {P : Program} {t : TypeId} {k : IntKind} (ht : P.underlying t = some (.int k)) : Opens P t (Kd.int k) (fun n => (Lit.int k n).wf = true) := by
  intro H enc W held fuel cs x h
  obtain ⟨n, rfl, _, hw⟩ := DataW.trod_int ht h
  exact ⟨n, rfl, hw⟩

theorem Opens.slice {α : Type} [Inhabited α] {P : Program} {t e : TypeId} {d : Kd α} {wf : α → Prop} (ht : P.underlying t = some (.slice e)) (hc : P.cellsOf e = d.sz) (h : Opens P e d wf) :
    Opens P t (Kd.slice e d) (fun l => l.length ≤ 9223372036854775807 ∧ ∀ a ∈ l, wf a) := by
  intro H enc W held fuel cs x hx
  rcases open_slice ht hx with ⟨rfl, _⟩ | ⟨ad, len, cap, m, n, D, Pl, rfl, _, hl, hm, hmm, _, hel⟩
  · exact ⟨[], ⟨none, 0, rfl, Nat.le_refl _, ⟨rfl, by simp, fun h => absurd h (Nat.lt_irrefl 0)⟩⟩, by simp, fun a ha => by cases ha⟩
  · have hmc : m = cap := by simpa using hmm
    have each : ∀ i, i < len → ∃ a : α, wf a ∧ ∃ c, c.length = d.sz ∧ d.K W a c ∧ ∀ j u, c[j]? = some u → W.cell? (ad.add (i * d.sz + j)) = some u := by
      intro i hi
      obtain ⟨cs', h1, h2⟩ := hel i (by omega)
      obtain ⟨_, hlen, hcell⟩ := World.cells?_some h1
      obtain ⟨a, hK, hw⟩ := h H enc W held n cs' _ h2
      refine ⟨a, hw, cs', by rw [hlen, hc], hK, fun j u hu => ?_⟩
      have hj : j < P.cellsOf e := by have := (List.getElem?_eq_some_iff.1 hu).1; omega
      have h3 := hcell j hj
      rw [hu, hc] at h3
      rw [← h3]
      congr 1
      unfold Addr.add
      by_cases h4 : i * d.sz = 0 <;> by_cases h5 : j = 0 <;> simp [h4, h5, Nat.add_assoc]
    obtain ⟨f, hf⟩ := choose_lt each
    have hlen : ((List.range len).map f).length = len := by simp
    refine ⟨(List.range len).map f, ⟨some ad, cap, by rw [hlen], by rw [hlen]; exact hl, ⟨rfl, by rw [hlen]; unfold maxLen at hm; omega, fun _ => ⟨ad, rfl, fun j p hp => ?_⟩⟩⟩, by rw [hlen]; unfold maxLen at hm; omega, fun a ha => ?_⟩
    · have hj : j < len := by have := (List.getElem?_eq_some_iff.1 hp).1; omega
      have hp2 : f j = p := by simpa [hj] using hp
      rw [← hp2]
      exact (hf j hj).2
    · obtain ⟨i, hi, rfl⟩ := List.mem_map.1 ha
      exact (hf i (List.mem_range.1 hi)).1

theorem Opens.pair {α β : Type} {P : Program} {t : TypeId} {a : Kd α} {b : Kd β} {wa : α → Prop} {wb : β → Prop} {f0 f1 : Field} (hs : P.underlying t = some (.struct #[f0, f1])) (o0 : f0.offset = 0) (c0 : P.cellsOf f0.type = a.sz) (o1 : f1.offset = a.sz) (c1 : P.cellsOf f1.type = b.sz) (hc : P.cellsOf t = a.sz + b.sz)
    (ha : Opens P f0.type a wa) (hb : Opens P f1.type b wb) : Opens P t (Kd.pair a b) (fun x => wa x.1 ∧ wb x.2) := by
  intro H enc W held fuel cs x hx
  obtain ⟨xs, n, _, _, hl, hxl, hf⟩ := DataW.trod_struct hs hx
  have hxl : xs.length = 2 := hxl
  have g0 := hf 0 f0 rfl
  have g1 := hf 1 f1 rfl
  rw [List.getElem?_eq_getElem (by omega)] at g0 g1
  obtain ⟨x0, k0, w0⟩ := ha H enc W held n _ _ g0
  obtain ⟨x1, k1, w1⟩ := hb H enc W held n _ _ g1
  refine ⟨(x0, x1), ⟨_, _, ?_, k0, k1⟩, w0, w1⟩
  rw [o0, o1, c0, c1, List.drop_zero]
  rw [List.take_of_length_le (l := cs.drop a.sz) (by rw [List.length_drop]; omega), List.take_append_drop]

theorem Opens.triple {α β γ : Type} {P : Program} {t : TypeId} {a : Kd α} {b : Kd β} {c : Kd γ} {wa : α → Prop} {wb : β → Prop} {wc : γ → Prop} {f0 f1 f2 : Field} (hs : P.underlying t = some (.struct #[f0, f1, f2])) (o0 : f0.offset = 0) (c0 : P.cellsOf f0.type = a.sz) (o1 : f1.offset = a.sz) (c1 : P.cellsOf f1.type = b.sz) (o2 : f2.offset = a.sz + b.sz) (c2 : P.cellsOf f2.type = c.sz) (hc : P.cellsOf t = a.sz + b.sz + c.sz)
    (ha : Opens P f0.type a wa) (hb : Opens P f1.type b wb) (hcc : Opens P f2.type c wc) : Opens P t (Kd.pair a (Kd.pair b c)) (fun x => wa x.1 ∧ wb x.2.1 ∧ wc x.2.2) := by
  intro H enc W held fuel cs x hx
  obtain ⟨xs, n, _, _, hl, hxl, hf⟩ := DataW.trod_struct hs hx
  have hxl : xs.length = 3 := hxl
  have g0 := hf 0 f0 rfl
  have g1 := hf 1 f1 rfl
  have g2 := hf 2 f2 rfl
  rw [List.getElem?_eq_getElem (by omega)] at g0 g1 g2
  obtain ⟨x0, k0, w0⟩ := ha H enc W held n _ _ g0
  obtain ⟨x1, k1, w1⟩ := hb H enc W held n _ _ g1
  obtain ⟨x2, k2, w2⟩ := hcc H enc W held n _ _ g2
  refine ⟨(x0, x1, x2), ⟨_, _, ?_, k0, ⟨_, _, rfl, k1, k2⟩⟩, w0, w1, w2⟩
  rw [o0, o1, o2, c0, c1, c2, List.drop_zero]
  rw [List.take_of_length_le (l := cs.drop (a.sz + b.sz)) (by rw [List.length_drop]; omega), ← List.drop_drop, List.take_append_drop, List.take_append_drop]

theorem Opens.iso {α β : Type} {P : Program} {t : TypeId} {d : Kd α} {wf : α → Prop} (f : β → α) (g : α → β) (hg : ∀ a, f (g a) = a) (h : Opens P t d wf) : Opens P t (Kd.iso d f) (fun b => wf (f b)) := by
  intro H enc W held fuel cs x hx
  obtain ⟨a, hK, hw⟩ := h H enc W held fuel cs x hx
  refine ⟨g a, ?_, by show wf (f (g a)); rw [hg]; exact hw⟩
  show d.K W (f (g a)) cs
  rw [hg]; exact hK

/-- An argument that is a struct. -/
theorem Opens.agg {α : Type} {P : Program} {t : TypeId} {d : Kd α} {wf : α → Prop} {fs : Array Field} (h : Opens P t d wf) (hs : P.underlying t = some (.struct fs)) {H : Type} {enc : TypeId × Value → H} {W : World} {r : Reach} {b0 : Nat} {v : Value} {dd : DataW H} {ps : List MemPlace}
    (hv : Value.okWide P W r b0 t v) (ht : DataW.Trod enc P W 0 (fun _ => true) true t v dd ps) : ∃ (a : α) (cs : List Value), v = .agg cs.toArray ∧ d.K W a cs ∧ wf a := by
  obtain ⟨cs, rfl, _⟩ := okWide_struct hs hv
  obtain ⟨fuel, hf⟩ := ht
  obtain ⟨a, hK, hw⟩ := h H enc W true fuel _ _ hf
  exact ⟨a, _, by simp [Value.cells], hK, hw⟩
/-- An argument that is a slice. -/
theorem Opens.arg {α : Type} {P : Program} {t e : TypeId} {d : Kd α} {wf : List α → Prop} (h : Opens P t (Kd.slice e d) wf) (ht : P.underlying t = some (.slice e)) {H : Type} {enc : TypeId × Value → H} {W : World} {r : Reach} {b0 : Nat} {v : Value} {dd : DataW H} {ps : List MemPlace}
    (hv : Value.okWide P W r b0 t v) (hT : DataW.Trod enc P W 0 (fun _ => true) true t v dd ps) : ∃ (l : List α) (A : Option Addr) (c : Nat), v = .slice A l.length c ∧ l.length ≤ c ∧ d.C W A l.length l ∧ wf l := by
  obtain ⟨a, len, cap, rfl⟩ := okWide_slice ht hv
  obtain ⟨fuel, hf⟩ := hT
  obtain ⟨l, ⟨A, c, he, hl, hC⟩, hw⟩ := h H enc W true fuel _ _ hf
  have he2 : [Value.slice a len cap] = [Value.slice A l.length c] := by simpa [Value.cells] using he
  injection he2 with he2 _
  exact ⟨l, A, c, he2, hl, hC, hw⟩

end Go.Proofs.Ytnhcdfikjfjkoaa.X
