/- The Go functions that the law FnExactCheckPiles comes to, as plain Lean functions, the proofs that calls of them return what those tell, and the plain lemmas on them; no condition but those that each theorem states. -/
import Derived.Test.YtipdmnibjkdpcaaMCheckPiles2
import Derived.Test.YtipdmnibjkdpcaaMCheckPiles3
import Derived.Test.YtipdmnibjkdpcaaMCheckPiles5
import Derived.OpenShut
import Derived.Test.YtipdmnibjkdpcaaMCheckPiles4
import Derived.Test.YtipdmnibjkdpcaaRows
import Derived.Test.YtipdmnibjkdpcaaMCheckPiles1
import Derived.Deep.Slices
import Derived.WalkKit
import Derived.ProofKit
import Derived.ShutString
import Derived.ChangeOld
import Derived.Below
import Derived.SizedLaws
import Derived.ChangeArms
import Derived.Carry
namespace Go.Proofs.Ytipdmnibjkdpcaa.P
open Go.RowKit Go.Proofs.YtipdmnibjkdpcaaW.PrintWords Go.Proofs.YtipdmnibjkdpcaaW.PrintLast Go.Proofs.YtipdmnibjkdpcaaW.PrintMore
attribute [local go_sem] max2_int min2_int max_two min_two max_three min_three max_four min_four
set_option linter.unusedVariables false
set_option linter.unusedSimpArgs false
def laws_FnExactCheckPiles.j0 : Nat → List (S66) → List Int → List (S64) → List Int → Bool → Option (Bool)
  | 0, _, _, _, _, _ => none
  | k + 1, x0, x1, x8, x9, x45 => if x45 = true then (some false) else ((laws_toBoxS.f k x0).bind fun t574 => ((laws_eqBoxS.f k x8 t574).bind fun t577 => (if t577 = true then ((laws_toInt64S.f k x1).bind fun t578 => ((laws_eqInt64S.f k x9 t578).bind fun t581 => (if t581 = true then (some true) else (some false)))) else (some false))))
def laws_FnExactCheckPiles.f (k : Nat) (l0 : List (S66)) (l1 : List Int) : Option (Bool) := if (l1.length : Int) > 1048576 then (some true) else ((laws_szBoxS.f l0 1048576).bind fun t557 => (if t557 < 0 then (some true) else ((laws_toBoxS.f k l0).bind fun t558 => ((laws_toInt64S.f k l1).bind fun t561 => ((spec_CheckPiles.f k t558 t561).bind fun bt564 => ((laws_toBoxS.f k l0).bind fun t566 => ((laws_toInt64S.f k l1).bind fun t569 => ((impl_CheckPiles.f k t566 t569).bind fun bt572 => (if (bt572.1 != bt564.1) = true then (laws_FnExactCheckPiles.j0 k l0 l1 t566 t569 true) else (laws_FnExactCheckPiles.j0 k l0 l1 t566 t569 (bt572.2 != bt564.2)))))))))))
set_option maxHeartbeats 8000000 in
set_option maxRecDepth 100000 in
theorem laws_FnExactCheckPiles.calls (k : Nat) (A0 : Option Addr) (c0 : Nat) (l0 : List (S66)) (A1 : Option Addr) (c1 : Nat) (l1 : List Int) (r : Bool) (w : World) (hr0 : Kd.C k66 w A0 l0.length l0) (hc0 : l0.length ≤ c0) (hr1 : Kd.C (Kd.int .i64) w A1 l1.length l1) (hc1 : l1.length ≤ c1) (h : laws_FnExactCheckPiles.f k l0 l1 = some r) (hlaw_ : r = true := by rfl) :
    Calls Try.prog 8 #[.slice A0 l0.length c0, .slice A1 l1.length c1] w fun e w' => e = .returned (.bool r) ∧ Below w.heap.size w w' := by
  have HLAW := Aside0.mk hlaw_
  clear hlaw_
  have HR0 := Aside0.mk hr0
  have HC0 := Aside0.mk hc0
  clear hr0 hc0
  have HR1 := Aside0.mk hr1
  have HC1 := Aside0.mk hc1
  clear hr1 hc1
  have HB := Aside0.mk (Below.refl w.heap.size w)
  have H : (if (l1.length : Int) > 1048576 then (some true) else ((laws_szBoxS.f l0 1048576).bind fun t557 => (if t557 < 0 then (some true) else ((laws_toBoxS.f k l0).bind fun t558 => ((laws_toInt64S.f k l1).bind fun t561 => ((spec_CheckPiles.f k t558 t561).bind fun bt564 => ((laws_toBoxS.f k l0).bind fun t566 => ((laws_toInt64S.f k l1).bind fun t569 => ((impl_CheckPiles.f k t566 t569).bind fun bt572 => (if (bt572.1 != bt564.1) = true then (laws_FnExactCheckPiles.j0 k l0 l1 t566 t569 true) else (laws_FnExactCheckPiles.j0 k l0 l1 t566 t569 (bt572.2 != bt564.2)))))))))))) = some r := h
  clear h
  by_cases c3 : (l1.length : Int) > 1048576
  rotate_left
  · rw [if_neg c3] at H
    have c3b0 : decide (1048576 < (l1.length : Int)) = false := decide_eq_false c3
    have c3b1 : decide (1048576 < l1.length) = false := decide_eq_false (by omega)
    clear c3
    replace H := Option.bind_eq_some_iff.mp H
    obtain ⟨t557, A40, H⟩ := H
    replace H : (if t557 < 0 then (some true) else ((laws_toBoxS.f k l0).bind fun t558 => ((laws_toInt64S.f k l1).bind fun t561 => ((spec_CheckPiles.f k t558 t561).bind fun bt564 => ((laws_toBoxS.f k l0).bind fun t566 => ((laws_toInt64S.f k l1).bind fun t569 => ((impl_CheckPiles.f k t566 t569).bind fun bt572 => (if (bt572.1 != bt564.1) = true then (laws_FnExactCheckPiles.j0 k l0 l1 t566 t569 true) else (laws_FnExactCheckPiles.j0 k l0 l1 t566 t569 (bt572.2 != bt564.2)))))))))) = some r := H
    have A4 := Aside0.mk A40
    clear A40
    by_cases c5 : t557 < 0
    rotate_left
    · rw [if_neg c5] at H
      have c5b0 : decide (t557 < 0) = false := decide_eq_false c5
      clear c5
      replace H := Option.bind_eq_some_iff.mp H
      obtain ⟨t558, A60, H⟩ := H
      replace H : ((laws_toInt64S.f k l1).bind fun t561 => ((spec_CheckPiles.f k t558 t561).bind fun bt564 => ((laws_toBoxS.f k l0).bind fun t566 => ((laws_toInt64S.f k l1).bind fun t569 => ((impl_CheckPiles.f k t566 t569).bind fun bt572 => (if (bt572.1 != bt564.1) = true then (laws_FnExactCheckPiles.j0 k l0 l1 t566 t569 true) else (laws_FnExactCheckPiles.j0 k l0 l1 t566 t569 (bt572.2 != bt564.2)))))))) = some r := H
      have A6 := Aside0.mk A60
      clear A60
      replace H := Option.bind_eq_some_iff.mp H
      obtain ⟨t561, A70, H⟩ := H
      replace H : ((spec_CheckPiles.f k t558 t561).bind fun bt564 => ((laws_toBoxS.f k l0).bind fun t566 => ((laws_toInt64S.f k l1).bind fun t569 => ((impl_CheckPiles.f k t566 t569).bind fun bt572 => (if (bt572.1 != bt564.1) = true then (laws_FnExactCheckPiles.j0 k l0 l1 t566 t569 true) else (laws_FnExactCheckPiles.j0 k l0 l1 t566 t569 (bt572.2 != bt564.2))))))) = some r := H
      have A7 := Aside0.mk A70
      clear A70
      replace H := Option.bind_eq_some_iff.mp H
      obtain ⟨⟨t564, t565⟩, A80, H⟩ := H
      replace H : ((laws_toBoxS.f k l0).bind fun t566 => ((laws_toInt64S.f k l1).bind fun t569 => ((impl_CheckPiles.f k t566 t569).bind fun bt572 => (if (bt572.1 != t564) = true then (laws_FnExactCheckPiles.j0 k l0 l1 t566 t569 true) else (laws_FnExactCheckPiles.j0 k l0 l1 t566 t569 (bt572.2 != t565)))))) = some r := H
      have A8 := Aside0.mk A80
      clear A80
      replace H := Option.bind_eq_some_iff.mp H
      obtain ⟨t566, A90, H⟩ := H
      replace H : ((laws_toInt64S.f k l1).bind fun t569 => ((impl_CheckPiles.f k t566 t569).bind fun bt572 => (if (bt572.1 != t564) = true then (laws_FnExactCheckPiles.j0 k l0 l1 t566 t569 true) else (laws_FnExactCheckPiles.j0 k l0 l1 t566 t569 (bt572.2 != t565))))) = some r := H
      have A9 := Aside0.mk A90
      clear A90
      replace H := Option.bind_eq_some_iff.mp H
      obtain ⟨t569, A100, H⟩ := H
      replace H : ((impl_CheckPiles.f k t566 t569).bind fun bt572 => (if (bt572.1 != t564) = true then (laws_FnExactCheckPiles.j0 k l0 l1 t566 t569 true) else (laws_FnExactCheckPiles.j0 k l0 l1 t566 t569 (bt572.2 != t565)))) = some r := H
      have A10 := Aside0.mk A100
      clear A100
      replace H := Option.bind_eq_some_iff.mp H
      obtain ⟨⟨t572, t573⟩, A110, H⟩ := H
      replace H : (if (t572 != t564) = true then (laws_FnExactCheckPiles.j0 k l0 l1 t566 t569 true) else (laws_FnExactCheckPiles.j0 k l0 l1 t566 t569 (t573 != t565))) = some r := H
      have A11 := Aside0.mk A110
      clear A110
      have HC12 := Aside0.mk H
      clear H
      go_enter Try.func8, Try.ntmps8
      go_upto_region 11 with (first | ((with_reducible refine gate_callee (f := 17) rfl ?_); refine goesL_ (some 17) rfl rfl Try.func17 (by kernel_rfl) rfl #[.slice A0 l0.length c0, .int .i64 1048576] rfl (by (try simp only [List.map_toArray, List.map_cons, List.map_nil]); first | done | rfl | (simp only [List.length_drop, List.length_take]; rfl)) ?_; (with_reducible refine (laws_szBoxS.calls _ _ l0 1048576 t557 _ ?side1 ?side2 A4.out).mono ?_); (case side1 => repeat (first | exact HR0.out | (with_reducible refine Kd.C_alloc ?_ _) | (with_reducible refine Kd.C_drewN ?_ _) | (with_reducible refine Kd.C_drew ?_))); (case side2 => exact HC0.out); rintro e w' ⟨rfl, ⟨nd, rfl⟩⟩; refine ⟨_, rfl, ?_⟩) | ((with_reducible refine gate_callee (f := 19) rfl ?_); refine goesL_ (some 22) rfl rfl Try.func19 (by kernel_rfl) rfl #[.slice A0 l0.length c0] rfl (by (try simp only [List.map_toArray, List.map_cons, List.map_nil]); first | done | rfl | (simp only [List.length_drop, List.length_take]; rfl)) ?_; (with_reducible refine (laws_toBoxS.calls k _ _ l0 t558 _ ?side1 ?side2 A6.out).mono ?_); (case side1 => repeat (first | exact HR0.out | (with_reducible refine Kd.C_alloc ?_ _) | (with_reducible refine Kd.C_drewN ?_ _) | (with_reducible refine Kd.C_drew ?_))); (case side2 => exact HC0.out); rintro e w13 ⟨v559, rfl, ho0, hb⟩; refine ⟨_, rfl, ?_⟩; have n0_ := Aside0.mk (Kd.R_lower ho0 (below_size (by repeat (first | (with_reducible first | exact HB.out | apply below_alloc | apply pw_below_drewN | apply below_drew1) | exact HB.out)))); have n1_ := Aside0.mk (below_step (by repeat (first | (with_reducible first | exact HB.out | apply below_alloc | apply pw_below_drewN | apply below_drew1) | exact HB.out)) hb); clear HB; have HO560 := n0_; have HB := n1_; clear n0_ n1_; (try clear hb); (try clear hb2); (try clear hk); (try clear hi); (try clear ho0)) | ((with_reducible refine gate_callee (f := 10) rfl ?_); refine goesL_ (some 24) rfl rfl Try.func10 (by kernel_rfl) rfl #[.slice A1 l1.length c1] rfl (by (try simp only [List.map_toArray, List.map_cons, List.map_nil]); first | done | rfl | (simp only [List.length_drop, List.length_take]; rfl)) ?_; (with_reducible refine (laws_toInt64S.calls k _ _ l1 t561 _ ?side1 ?side2 A7.out).mono ?_); (case side1 => repeat (first | exact (Kd.C_below HR1.out HB.out) | (with_reducible refine Kd.C_alloc ?_ _) | (with_reducible refine Kd.C_drewN ?_ _) | (with_reducible refine Kd.C_drew ?_))); (case side2 => exact HC1.out); rintro e w14 ⟨v562, rfl, ho0, hb⟩; refine ⟨_, rfl, ?_⟩; have n0_ := Aside0.mk (Kd.R_below (by (with_reducible repeat (first | apply Kd.R_alloc | apply Kd.R_drewN | apply Kd.R_drew)); exact HO560.out) hb); have n1_ := Aside0.mk (Kd.R_lower ho0 (below_size (by repeat (first | (with_reducible first | exact HB.out | apply below_alloc | apply pw_below_drewN | apply below_drew1) | exact HB.out)))); have n2_ := Aside0.mk (below_step (by repeat (first | (with_reducible first | exact HB.out | apply below_alloc | apply pw_below_drewN | apply below_drew1) | exact HB.out)) hb); clear HO560; clear HB; have HO560 := n0_; have HO563 := n1_; have HB := n2_; clear n0_ n1_ n2_; (try clear hb); (try clear hb2); (try clear hk); (try clear hi); (try clear ho0); obtain ⟨Ao15, co15, eo15⟩ := Kd.R_slice HO560.out; subst eo15; obtain ⟨Ao16, co16, eo16⟩ := Kd.R_slice HO563.out; subst eo16) | ((with_reducible refine gate_callee (f := 27) rfl ?_); refine goesL_ (some 25) rfl rfl Try.func27 (by kernel_rfl) rfl #[.slice Ao15 t558.length co15, .slice Ao16 t561.length co16] rfl (by (try simp only [List.map_toArray, List.map_cons, List.map_nil]); first | done | rfl | (simp only [List.length_drop, List.length_take]; rfl)) ?_; (with_reducible refine (spec_CheckPiles.calls k _ _ t558 _ _ t561 t564 t565 _ ?side1 ?side2 ?side3 ?side4 A8.out).mono ?_); (case side1 => repeat (first | exact (Kd.R_reads' HO560.out).2.2 | (with_reducible refine Kd.C_alloc ?_ _) | (with_reducible refine Kd.C_drewN ?_ _) | (with_reducible refine Kd.C_drew ?_))); (case side2 => exact (Kd.R_reads' HO560.out).2.1); (case side3 => repeat (first | exact (Kd.R_reads' HO563.out).2.2 | (with_reducible refine Kd.C_alloc ?_ _) | (with_reducible refine Kd.C_drewN ?_ _) | (with_reducible refine Kd.C_drew ?_))); (case side4 => exact (Kd.R_reads' HO563.out).2.1); rintro e w17 ⟨rfl, hb⟩; refine ⟨_, rfl, ?_⟩; have n0_ := Aside0.mk (Kd.R_below (by (with_reducible repeat (first | apply Kd.R_alloc | apply Kd.R_drewN | apply Kd.R_drew)); exact HO560.out) hb); have n1_ := Aside0.mk (Kd.R_below (by (with_reducible repeat (first | apply Kd.R_alloc | apply Kd.R_drewN | apply Kd.R_drew)); exact HO563.out) hb); have n2_ := Aside0.mk (below_step (by repeat (first | (with_reducible first | exact HB.out | apply below_alloc | apply pw_below_drewN | apply below_drew1) | exact HB.out)) hb); clear HO560; clear HO563; clear HB; have HO560 := n0_; have HO563 := n1_; have HB := n2_; clear n0_ n1_ n2_; (try clear hb); (try clear hb2); (try clear hk); (try clear hi)) | ((with_reducible refine gate_callee (f := 19) rfl ?_); refine goesL_ (some 29) rfl rfl Try.func19 (by kernel_rfl) rfl #[.slice A0 l0.length c0] rfl (by (try simp only [List.map_toArray, List.map_cons, List.map_nil]); first | done | rfl | (simp only [List.length_drop, List.length_take]; rfl)) ?_; (with_reducible refine (laws_toBoxS.calls k _ _ l0 t566 _ ?side1 ?side2 A9.out).mono ?_); (case side1 => repeat (first | exact (Kd.C_below HR0.out HB.out) | (with_reducible refine Kd.C_alloc ?_ _) | (with_reducible refine Kd.C_drewN ?_ _) | (with_reducible refine Kd.C_drew ?_))); (case side2 => exact HC0.out); rintro e w18 ⟨v567, rfl, ho0, hb⟩; refine ⟨_, rfl, ?_⟩; have n0_ := Aside0.mk (Kd.R_elder' (by (with_reducible repeat (first | apply Kd.R_alloc | apply Kd.R_drewN | apply Kd.R_drew)); exact HO560.out) (Kd.R_base ho0) hb); have n1_ := Aside0.mk (Kd.R_below (by (with_reducible repeat (first | apply Kd.R_alloc | apply Kd.R_drewN | apply Kd.R_drew)); exact HO563.out) hb); have n2_ := Aside0.mk (Kd.R_lower (Kd.R_new' ho0 (Kd.R_lt (by (with_reducible repeat (first | apply Kd.R_alloc | apply Kd.R_drewN | apply Kd.R_drew)); exact HO560.out))) (below_size (by repeat (first | (with_reducible first | exact HB.out | apply below_alloc | apply pw_below_drewN | apply below_drew1) | exact HB.out)))); have n3_ := Aside0.mk (below_step (by repeat (first | (with_reducible first | exact HB.out | apply below_alloc | apply pw_below_drewN | apply below_drew1) | exact HB.out)) hb); clear HO560; clear HO563; clear HB; have HO560 := n0_; have HO563 := n1_; have HO568 := n2_; have HB := n3_; clear n0_ n1_ n2_ n3_; (try clear hb); (try clear hb2); (try clear hk); (try clear hi); (try clear ho0)) | ((with_reducible refine gate_callee (f := 10) rfl ?_); refine goesL_ (some 31) rfl rfl Try.func10 (by kernel_rfl) rfl #[.slice A1 l1.length c1] rfl (by (try simp only [List.map_toArray, List.map_cons, List.map_nil]); first | done | rfl | (simp only [List.length_drop, List.length_take]; rfl)) ?_; (with_reducible refine (laws_toInt64S.calls k _ _ l1 t569 _ ?side1 ?side2 A10.out).mono ?_); (case side1 => repeat (first | exact (Kd.C_below HR1.out HB.out) | (with_reducible refine Kd.C_alloc ?_ _) | (with_reducible refine Kd.C_drewN ?_ _) | (with_reducible refine Kd.C_drew ?_))); (case side2 => exact HC1.out); rintro e w19 ⟨v570, rfl, ho0, hb⟩; refine ⟨_, rfl, ?_⟩; have n0_ := Aside0.mk (Kd.R_below (by (with_reducible repeat (first | apply Kd.R_alloc | apply Kd.R_drewN | apply Kd.R_drew)); exact HO560.out) hb); have n1_ := Aside0.mk (Kd.R_elder' (by (with_reducible repeat (first | apply Kd.R_alloc | apply Kd.R_drewN | apply Kd.R_drew)); exact HO563.out) (Kd.R_base ho0) hb); have n2_ := Aside0.mk (Kd.R_below (by (with_reducible repeat (first | apply Kd.R_alloc | apply Kd.R_drewN | apply Kd.R_drew)); exact HO568.out) hb); have n3_ := Aside0.mk (Kd.R_lower (Kd.R_new' ho0 (Kd.R_lt (by (with_reducible repeat (first | apply Kd.R_alloc | apply Kd.R_drewN | apply Kd.R_drew)); exact HO563.out))) (below_size (by repeat (first | (with_reducible first | exact HB.out | apply below_alloc | apply pw_below_drewN | apply below_drew1) | exact HB.out)))); have n4_ := Aside0.mk (below_step (by repeat (first | (with_reducible first | exact HB.out | apply below_alloc | apply pw_below_drewN | apply below_drew1) | exact HB.out)) hb); clear HO560; clear HO563; clear HO568; clear HB; have HO560 := n0_; have HO563 := n1_; have HO568 := n2_; have HO571 := n3_; have HB := n4_; clear n0_ n1_ n2_ n3_ n4_; (try clear hb); (try clear hb2); (try clear hk); (try clear hi); (try clear ho0); obtain ⟨Ao20, co20, eo20⟩ := Kd.R_slice HO568.out; subst eo20; obtain ⟨Ao21, co21, eo21⟩ := Kd.R_slice HO571.out; subst eo21) | ((with_reducible refine gate_callee (f := 28) rfl ?_); refine goesL_ (some 35) rfl rfl Try.func28 (by kernel_rfl) rfl #[.slice Ao20 t566.length co20, .slice Ao21 t569.length co21] rfl (by (try simp only [List.map_toArray, List.map_cons, List.map_nil]); first | done | rfl | (simp only [List.length_drop, List.length_take]; rfl)) ?_; (with_reducible refine (impl_CheckPiles.calls k _ _ t566 _ _ t569 t572 t573 _ ?side1 ?side2 ?side3 ?side4 A11.out).mono ?_); (case side1 => repeat (first | exact (Kd.R_reads' HO568.out).2.2 | (with_reducible refine Kd.C_alloc ?_ _) | (with_reducible refine Kd.C_drewN ?_ _) | (with_reducible refine Kd.C_drew ?_))); (case side2 => exact (Kd.R_reads' HO568.out).2.1); (case side3 => repeat (first | exact (Kd.R_reads' HO571.out).2.2 | (with_reducible refine Kd.C_alloc ?_ _) | (with_reducible refine Kd.C_drewN ?_ _) | (with_reducible refine Kd.C_drew ?_))); (case side4 => exact (Kd.R_reads' HO571.out).2.1); rintro e w22 ⟨rfl, hb⟩; refine ⟨_, rfl, ?_⟩; have n0_ := Aside0.mk (Kd.R_below (by (with_reducible repeat (first | apply Kd.R_alloc | apply Kd.R_drewN | apply Kd.R_drew)); exact HO560.out) hb); have n1_ := Aside0.mk (Kd.R_below (by (with_reducible repeat (first | apply Kd.R_alloc | apply Kd.R_drewN | apply Kd.R_drew)); exact HO563.out) hb); have n2_ := Aside0.mk (Kd.R_below (by (with_reducible repeat (first | apply Kd.R_alloc | apply Kd.R_drewN | apply Kd.R_drew)); exact HO568.out) hb); have n3_ := Aside0.mk (Kd.R_below (by (with_reducible repeat (first | apply Kd.R_alloc | apply Kd.R_drewN | apply Kd.R_drew)); exact HO571.out) hb); have n4_ := Aside0.mk (below_step (by repeat (first | (with_reducible first | exact HB.out | apply below_alloc | apply pw_below_drewN | apply below_drew1) | exact HB.out)) hb); clear HO560; clear HO563; clear HO568; clear HO571; clear HB; have HO560 := n0_; have HO563 := n1_; have HO568 := n2_; have HO571 := n3_; have HB := n4_; clear n0_ n1_ n2_ n3_ n4_; (try clear hb); (try clear hb2); (try clear hk); (try clear hi)))
      (try simp only [Act.put, List.setIfInBounds_toArray, List.set_cons_zero, List.set_cons_succ])
      go_cut [45] (fun v45 wc => ∃ (kq : Nat) (x45_11 : Bool), v45 = .bool x45_11 ∧ Aside0 (laws_FnExactCheckPiles.j0 kq l0 l1 t566 t569 x45_11 = some r) ∧ Aside0 (kq ≤ k) ∧ Aside0 (Kd.R k64 64 wc w.heap.size (fun _ => True) (.slice Ao20 t566.length co20) t566) ∧ Aside0 (Kd.R (Kd.int .i64) 2 wc w.heap.size (fun _ => True) (.slice Ao21 t569.length co21) t569) ∧ Aside0 (Below w.heap.size w wc))
      case first =>
        have H := HC12.out
        clear HC12
        by_cases c23 : (t572 != t564) = true
        rotate_left
        · rw [if_neg c23] at H
          have c23b0 : (t572 != t564) = false := by simpa using c23
          (try (have c23b1 : decide (t572 = t564) = true := by simpa using c23))
          (try (have c23b2 : (t572 == t564) = true := by simpa using c23))
          clear c23
          (first | rw [c23b0] | (simp only [i64_w, i32_w]; rw [c23b0]) | skip)
          have H' := Aside0.mk H
          clear H
          go_wp2
          go_meet
          case rel => exact ⟨_, ((t573 != t565)), (by first | rfl | (simp; done) | (simp [*]; done)), H', ⟨by first | omega | exact Nat.le_refl _⟩, ⟨by (with_reducible repeat (first | apply Kd.R_alloc | apply Kd.R_drewN | apply Kd.R_drew)); exact Kd.R_mono HO568.out (fun _ hk => trivial)⟩, ⟨by (with_reducible repeat (first | apply Kd.R_alloc | apply Kd.R_drewN | apply Kd.R_drew)); exact Kd.R_mono HO571.out (fun _ hk => trivial)⟩, ⟨by repeat (first | (with_reducible first | exact HB.out | apply below_alloc | apply pw_below_drewN | apply below_drew1) | exact HB.out)⟩⟩
        rw [if_pos c23] at H
        have c23b0 : (t572 != t564) = true := c23
        (try (have c23b1 : decide (t572 = t564) = false := by simpa using c23))
        (try (have c23b2 : (t572 == t564) = false := by simpa using c23))
        (try (have c23b3 : ¬ (t572 = t564) := by simpa using c23))
        clear c23
        (first | rw [c23b0] | (simp only [i64_w, i32_w]; rw [c23b0]) | skip)
        have H' := Aside0.mk H
        clear H
        go_wp2
        go_meet
        case rel => exact ⟨_, (true), (by first | rfl | (simp; done) | (simp [*]; done)), H', ⟨by first | omega | exact Nat.le_refl _⟩, ⟨by (with_reducible repeat (first | apply Kd.R_alloc | apply Kd.R_drewN | apply Kd.R_drew)); exact Kd.R_mono HO568.out (fun _ hk => trivial)⟩, ⟨by (with_reducible repeat (first | apply Kd.R_alloc | apply Kd.R_drewN | apply Kd.R_drew)); exact Kd.R_mono HO571.out (fun _ hk => trivial)⟩, ⟨by repeat (first | (with_reducible first | exact HB.out | apply below_alloc | apply pw_below_drewN | apply below_drew1) | exact HB.out)⟩⟩
      case rest =>
        clear HC12
        try clear c1
        try clear c2
        try clear p2
        try clear c3
        try clear c3b0
        try clear c3b1
        try clear c5
        try clear c5b0
        try clear c8
        try clear c10
        try clear c17
        try clear c19
        try clear c23
        try clear c23b0
        try clear c23b1
        try clear c23b2
        obtain ⟨kq, x45_11, rfl, HA, HJ11, HO_8, HO_9, HB⟩ := hcut
        cases kq with
        | zero => exact absurd HA.out (by simp [laws_FnExactCheckPiles.j0])
        | succ kj11 =>
          have H := HA.out
          clear HA
          simp only [laws_FnExactCheckPiles.j0] at H
          by_cases c24 : x45_11 = true
          rotate_left
          · replace c24 := Bool.eq_false_iff.mpr c24
            subst c24
            have H1 : ((laws_toBoxS.f kj11 l0).bind fun t574 => ((laws_eqBoxS.f kj11 t566 t574).bind fun t577 => (if t577 = true then ((laws_toInt64S.f kj11 l1).bind fun t578 => ((laws_eqInt64S.f kj11 t569 t578).bind fun t581 => (if t581 = true then (some true) else (some false)))) else (some false)))) = some r := by rw [if_neg (show ¬ (false = true) by decide)] at H; exact H
            clear H
            have H := H1
            clear H1
            replace H := Option.bind_eq_some_iff.mp H
            obtain ⟨t574, A250, H⟩ := H
            replace H : ((laws_eqBoxS.f kj11 t566 t574).bind fun t577 => (if t577 = true then ((laws_toInt64S.f kj11 l1).bind fun t578 => ((laws_eqInt64S.f kj11 t569 t578).bind fun t581 => (if t581 = true then (some true) else (some false)))) else (some false))) = some r := H
            have A25 := Aside0.mk A250
            clear A250
            replace H := Option.bind_eq_some_iff.mp H
            obtain ⟨t577, A260, H⟩ := H
            replace H : (if t577 = true then ((laws_toInt64S.f kj11 l1).bind fun t578 => ((laws_eqInt64S.f kj11 t569 t578).bind fun t581 => (if t581 = true then (some true) else (some false)))) else (some false)) = some r := H
            have A26 := Aside0.mk A260
            clear A260
            by_cases c27 : t577 = true
            rotate_left
            · replace c27 := Bool.eq_false_iff.mpr c27
              subst c27
              have H1 : (some false) = some r := by rw [if_neg (show ¬ (false = true) by decide)] at H; exact H
              clear H
              have H := H1
              clear H1
              exact absurd ((Option.some.inj H).trans HLAW.out) (by decide)
            subst c27
            have H1 : ((laws_toInt64S.f kj11 l1).bind fun t578 => ((laws_eqInt64S.f kj11 t569 t578).bind fun t581 => (if t581 = true then (some true) else (some false)))) = some r := by rw [if_pos rfl] at H; exact H
            clear H
            have H := H1
            clear H1
            replace H := Option.bind_eq_some_iff.mp H
            obtain ⟨t578, A280, H⟩ := H
            replace H : ((laws_eqInt64S.f kj11 t569 t578).bind fun t581 => (if t581 = true then (some true) else (some false))) = some r := H
            have A28 := Aside0.mk A280
            clear A280
            replace H := Option.bind_eq_some_iff.mp H
            obtain ⟨t581, A290, H⟩ := H
            replace H : (if t581 = true then (some true) else (some false)) = some r := H
            have A29 := Aside0.mk A290
            clear A290
            by_cases c30 : t581 = true
            rotate_left
            · replace c30 := Bool.eq_false_iff.mpr c30
              subst c30
              have H1 : (some false) = some r := by rw [if_neg (show ¬ (false = true) by decide)] at H; exact H
              clear H
              have H := H1
              clear H1
              exact absurd ((Option.some.inj H).trans HLAW.out) (by decide)
            subst c30
            have H1 : (some true) = some r := by rw [if_pos rfl] at H; exact H
            clear H
            have H := H1
            clear H1
            obtain rfl := Option.some.inj H
            go_wp2_with (first | ((with_reducible refine gate_callee (f := 19) rfl ?_); refine goesL_ (some 48) rfl rfl Try.func19 (by kernel_rfl) rfl #[.slice A0 l0.length c0] rfl (by (try simp only [List.map_toArray, List.map_cons, List.map_nil]); first | done | rfl | (simp only [List.length_drop, List.length_take]; rfl)) ?_; (with_reducible refine (laws_toBoxS.calls kj11 _ _ l0 t574 _ ?side1 ?side2 A25.out).mono ?_); (case side1 => repeat (first | exact (Kd.C_below HR0.out HB.out) | (with_reducible refine Kd.C_alloc ?_ _) | (with_reducible refine Kd.C_drewN ?_ _) | (with_reducible refine Kd.C_drew ?_))); (case side2 => exact HC0.out); rintro e w31 ⟨v575, rfl, ho0, hb⟩; refine ⟨_, rfl, ?_⟩; have n0_ := Aside0.mk (Kd.R_elder' (by (with_reducible repeat (first | apply Kd.R_alloc | apply Kd.R_drewN | apply Kd.R_drew)); exact HO_8.out) (Kd.R_base ho0) hb); have n1_ := Aside0.mk (Kd.R_below (by (with_reducible repeat (first | apply Kd.R_alloc | apply Kd.R_drewN | apply Kd.R_drew)); exact HO_9.out) hb); have n2_ := Aside0.mk (Kd.R_lower (Kd.R_new' ho0 (Kd.R_lt (by (with_reducible repeat (first | apply Kd.R_alloc | apply Kd.R_drewN | apply Kd.R_drew)); exact HO_8.out))) (below_size (by repeat (first | (with_reducible first | exact HB.out | apply below_alloc | apply pw_below_drewN | apply below_drew1) | exact HB.out)))); have n3_ := Aside0.mk (below_step (by repeat (first | (with_reducible first | exact HB.out | apply below_alloc | apply pw_below_drewN | apply below_drew1) | exact HB.out)) hb); clear HO_8; clear HO_9; clear HB; have HO_8 := n0_; have HO_9 := n1_; have HO576 := n2_; have HB := n3_; clear n0_ n1_ n2_ n3_; (try clear hb); (try clear hb2); (try clear hk); (try clear hi); (try clear ho0); obtain ⟨Ao32, co32, eo32⟩ := Kd.R_slice HO576.out; subst eo32) | ((with_reducible refine gate_callee (f := 21) rfl ?_); refine goesL_ (some 49) rfl rfl Try.func21 (by kernel_rfl) rfl #[.slice Ao20 t566.length co20, .slice Ao32 t574.length co32] rfl (by (try simp only [List.map_toArray, List.map_cons, List.map_nil]); first | done | rfl | (simp only [List.length_drop, List.length_take]; rfl)) ?_; (with_reducible refine (laws_eqBoxS.calls kj11 _ _ t566 _ _ t574 true _ ?side1 ?side2 ?side3 ?side4 A26.out).mono ?_); (case side1 => repeat (first | exact (Kd.R_reads' HO_8.out).2.2 | (with_reducible refine Kd.C_alloc ?_ _) | (with_reducible refine Kd.C_drewN ?_ _) | (with_reducible refine Kd.C_drew ?_))); (case side2 => exact (Kd.R_reads' HO_8.out).2.1); (case side3 => repeat (first | exact (Kd.R_reads' HO576.out).2.2 | (with_reducible refine Kd.C_alloc ?_ _) | (with_reducible refine Kd.C_drewN ?_ _) | (with_reducible refine Kd.C_drew ?_))); (case side4 => exact (Kd.R_reads' HO576.out).2.1); rintro e w33 ⟨rfl, hb⟩; refine ⟨_, rfl, ?_⟩; have n0_ := Aside0.mk (Kd.R_below (by (with_reducible repeat (first | apply Kd.R_alloc | apply Kd.R_drewN | apply Kd.R_drew)); exact HO_8.out) hb); have n1_ := Aside0.mk (Kd.R_below (by (with_reducible repeat (first | apply Kd.R_alloc | apply Kd.R_drewN | apply Kd.R_drew)); exact HO_9.out) hb); have n2_ := Aside0.mk (Kd.R_below (by (with_reducible repeat (first | apply Kd.R_alloc | apply Kd.R_drewN | apply Kd.R_drew)); exact HO576.out) hb); have n3_ := Aside0.mk (below_step (by repeat (first | (with_reducible first | exact HB.out | apply below_alloc | apply pw_below_drewN | apply below_drew1) | exact HB.out)) hb); clear HO_8; clear HO_9; clear HO576; clear HB; have HO_8 := n0_; have HO_9 := n1_; have HO576 := n2_; have HB := n3_; clear n0_ n1_ n2_ n3_; (try clear hb); (try clear hb2); (try clear hk); (try clear hi)) | ((with_reducible refine gate_callee (f := 10) rfl ?_); refine goesL_ (some 53) rfl rfl Try.func10 (by kernel_rfl) rfl #[.slice A1 l1.length c1] rfl (by (try simp only [List.map_toArray, List.map_cons, List.map_nil]); first | done | rfl | (simp only [List.length_drop, List.length_take]; rfl)) ?_; (with_reducible refine (laws_toInt64S.calls kj11 _ _ l1 t578 _ ?side1 ?side2 A28.out).mono ?_); (case side1 => repeat (first | exact (Kd.C_below HR1.out HB.out) | (with_reducible refine Kd.C_alloc ?_ _) | (with_reducible refine Kd.C_drewN ?_ _) | (with_reducible refine Kd.C_drew ?_))); (case side2 => exact HC1.out); rintro e w34 ⟨v579, rfl, ho0, hb⟩; refine ⟨_, rfl, ?_⟩; have n0_ := Aside0.mk (Kd.R_below (by (with_reducible repeat (first | apply Kd.R_alloc | apply Kd.R_drewN | apply Kd.R_drew)); exact HO_8.out) hb); have n1_ := Aside0.mk (Kd.R_elder' (by (with_reducible repeat (first | apply Kd.R_alloc | apply Kd.R_drewN | apply Kd.R_drew)); exact HO_9.out) (Kd.R_base ho0) hb); have n2_ := Aside0.mk (Kd.R_below (by (with_reducible repeat (first | apply Kd.R_alloc | apply Kd.R_drewN | apply Kd.R_drew)); exact HO576.out) hb); have n3_ := Aside0.mk (Kd.R_lower (Kd.R_new' ho0 (Kd.R_lt (by (with_reducible repeat (first | apply Kd.R_alloc | apply Kd.R_drewN | apply Kd.R_drew)); exact HO_9.out))) (below_size (by repeat (first | (with_reducible first | exact HB.out | apply below_alloc | apply pw_below_drewN | apply below_drew1) | exact HB.out)))); have n4_ := Aside0.mk (below_step (by repeat (first | (with_reducible first | exact HB.out | apply below_alloc | apply pw_below_drewN | apply below_drew1) | exact HB.out)) hb); clear HO_8; clear HO_9; clear HO576; clear HB; have HO_8 := n0_; have HO_9 := n1_; have HO576 := n2_; have HO580 := n3_; have HB := n4_; clear n0_ n1_ n2_ n3_ n4_; (try clear hb); (try clear hb2); (try clear hk); (try clear hi); (try clear ho0); obtain ⟨Ao35, co35, eo35⟩ := Kd.R_slice HO580.out; subst eo35) | ((with_reducible refine gate_callee (f := 12) rfl ?_); refine goesL_ (some 54) rfl rfl Try.func12 (by kernel_rfl) rfl #[.slice Ao21 t569.length co21, .slice Ao35 t578.length co35] rfl (by (try simp only [List.map_toArray, List.map_cons, List.map_nil]); first | done | rfl | (simp only [List.length_drop, List.length_take]; rfl)) ?_; (with_reducible refine (laws_eqInt64S.calls kj11 _ _ t569 _ _ t578 true _ ?side1 ?side2 ?side3 ?side4 A29.out).mono ?_); (case side1 => repeat (first | exact (Kd.R_reads' HO_9.out).2.2 | (with_reducible refine Kd.C_alloc ?_ _) | (with_reducible refine Kd.C_drewN ?_ _) | (with_reducible refine Kd.C_drew ?_))); (case side2 => exact (Kd.R_reads' HO_9.out).2.1); (case side3 => repeat (first | exact (Kd.R_reads' HO580.out).2.2 | (with_reducible refine Kd.C_alloc ?_ _) | (with_reducible refine Kd.C_drewN ?_ _) | (with_reducible refine Kd.C_drew ?_))); (case side4 => exact (Kd.R_reads' HO580.out).2.1); rintro e w' ⟨rfl, ⟨nd, rfl⟩⟩; refine ⟨_, rfl, ?_⟩))
            go_ret
            exact ⟨by first | rfl | (simp [errW_none, errW_some] <;> rfl) | (simp [*, errW_none, errW_some] <;> rfl), by repeat (first | (with_reducible first | exact HB.out | apply below_alloc | apply pw_below_drewN | apply below_drew1) | exact HB.out)⟩
          subst c24
          have H1 : (some false) = some r := by rw [if_pos rfl] at H; exact H
          clear H
          have H := H1
          clear H1
          exact absurd ((Option.some.inj H).trans HLAW.out) (by decide)
    rw [if_pos c5] at H
    have c5b0 : decide (t557 < 0) = true := decide_eq_true c5
    clear c5
    obtain rfl := Option.some.inj H
    go_enter Try.func8, Try.ntmps8
    go_wp2_with (first | ((with_reducible refine gate_callee (f := 17) rfl ?_); refine goesL_ (some 17) rfl rfl Try.func17 (by kernel_rfl) rfl #[.slice A0 l0.length c0, .int .i64 1048576] rfl (by (try simp only [List.map_toArray, List.map_cons, List.map_nil]); first | done | rfl | (simp only [List.length_drop, List.length_take]; rfl)) ?_; (with_reducible refine (laws_szBoxS.calls _ _ l0 1048576 t557 _ ?side1 ?side2 A4.out).mono ?_); (case side1 => repeat (first | exact HR0.out | (with_reducible refine Kd.C_alloc ?_ _) | (with_reducible refine Kd.C_drewN ?_ _) | (with_reducible refine Kd.C_drew ?_))); (case side2 => exact HC0.out); rintro e w' ⟨rfl, ⟨nd, rfl⟩⟩; refine ⟨_, rfl, ?_⟩))
    go_ret
    exact ⟨by first | rfl | (simp [errW_none, errW_some] <;> rfl) | (simp [*, errW_none, errW_some] <;> rfl), by repeat (first | (with_reducible first | exact HB.out | apply below_alloc | apply pw_below_drewN | apply below_drew1) | exact HB.out)⟩
  rw [if_pos c3] at H
  have c3b0 : decide (1048576 < (l1.length : Int)) = true := decide_eq_true c3
  have c3b1 : decide (1048576 < l1.length) = true := decide_eq_true (by omega)
  clear c3
  obtain rfl := Option.some.inj H
  go_enter Try.func8, Try.ntmps8
  go_wp2
  go_ret
  exact ⟨by first | rfl | (simp [errW_none, errW_some] <;> rfl) | (simp [*, errW_none, errW_some] <;> rfl), by repeat (first | (with_reducible first | exact HB.out | apply below_alloc | apply pw_below_drewN | apply below_drew1) | exact HB.out)⟩
end Go.Proofs.Ytipdmnibjkdpcaa.P

namespace Go.Proofs.Ytipdmnibjkdpcaa.P
open Go.RowKit Go.Proofs.YtipdmnibjkdpcaaW.PrintWords
def laws_FnExactCheckPiles.Pure : Prop := ∀ (x0 : List (S66)) (x1 : List Int), (x0.length ≤ 9223372036854775807 ∧ ∀ x0_ ∈ x0, ((Lit.int .i8 x0_.f0).wf = true ∧ (Lit.int .i8 x0_.f1).wf = true ∧ (Lit.int .i8 x0_.f2).wf = true)) → (x1.length ≤ 9223372036854775807 ∧ ∀ x0_ ∈ x1, (Lit.int .i64 x0_).wf = true) → ∃ k, laws_FnExactCheckPiles.f k x0 x1 = some true
end Go.Proofs.Ytipdmnibjkdpcaa.P

namespace Go.Proofs.Ytipdmnibjkdpcaa.Pure
open Go.RowKit Go.Proofs.Ytipdmnibjkdpcaa.P Go.Proofs.YtipdmnibjkdpcaaW.PrintWords Go.Proofs.YtipdmnibjkdpcaaW.PrintLast
set_option linter.unusedVariables false
set_option linter.unusedSimpArgs false
theorem EvG {α : Type} {g : Nat → Option α} {r : α} (h : Ev g r) : ∃ K, ∀ k, K ≤ k → g k = some r := h
theorem EvI {α : Type} {g : Nat → Option α} {r : α} (K : Nat) (h : ∀ k, K ≤ k → g k = some r) : Ev g r := ⟨K, h⟩
theorem w64 {x : Int} (h0 : -9223372036854775808 ≤ x) (h1 : x ≤ 9223372036854775807) : wrap64 x = x := by
  unfold wrap64; omega
theorem wN (i : Nat) (h : i < 4611686018427387904) : wrap64 ((i : Int) + 1) = ((i + 1 : Nat) : Int) := by
  unfold wrap64; omega
theorem rdN (l : List Int) (i : Nat) : rd l (i : Int) = l.getD i 0 := rfl
theorem getD_eq (l : List Int) (i : Nat) (h : i < l.length) : l.getD i 0 = l[i] := by
  rw [List.getD_eq_getElem?_getD, List.getElem?_eq_getElem h]; rfl
theorem list_ext (a b : List Int) (hl : a.length = b.length) (h : ∀ j, j < b.length → a.getD j 0 = b.getD j 0) : a = b := by
  apply List.ext_getElem hl
  intro i h1 h2
  have := h i h2
  rwa [getD_eq a i h1, getD_eq b i h2] at this
theorem getD_set (l : List Int) (i j : Nat) (v : Int) (h : i < l.length) : (l.set i v).getD j 0 = if i = j then v else l.getD j 0 := by
  simp only [List.getD_eq_getElem?_getD, List.getElem?_set]
  by_cases e : i = j
  · subst e; simp [h]
  · simp [e]
end Go.Proofs.Ytipdmnibjkdpcaa.Pure

namespace Go.Proofs.Ytipdmnibjkdpcaa.P
open Go.RowKit Go.Proofs.YtipdmnibjkdpcaaW.PrintWords Go.Proofs.YtipdmnibjkdpcaaW.PrintLast Go.Proofs.YtipdmnibjkdpcaaW.PrintMore
attribute [local go_sem] max2_int min2_int max_two min_two max_three min_three max_four min_four
set_option linter.unusedVariables false
set_option linter.unusedSimpArgs false
def laws_heldInt64S.l0 : Nat → List Int → Int → Int → Option (Int)
  | 0, _, _, _ => none
  | k + 1, x0, x1, x5 => if x5 < (x0.length : Int) then (if 0 ≤ x5 then (if (rd x0 x5) = x1 then (laws_heldInt64S.l0 k x0 (wrap64 (x1 + 1)) (wrap64 (x5 + 1))) else (some (-1))) else (none)) else (some x1)
def laws_heldInt64S.f (k : Nat) (l0 : List Int) (a1 : Int) : Option (Int) := laws_heldInt64S.l0 k l0 a1 0
end Go.Proofs.Ytipdmnibjkdpcaa.P

namespace Go.Proofs.Ytipdmnibjkdpcaa.P
open Go.RowKit Go.Proofs.YtipdmnibjkdpcaaW.PrintWords Go.Proofs.YtipdmnibjkdpcaaW.PrintLast Go.Proofs.YtipdmnibjkdpcaaW.PrintMore
attribute [local go_sem] max2_int min2_int max_two min_two max_three min_three max_four min_four
set_option linter.unusedVariables false
set_option linter.unusedSimpArgs false
def laws_markInt64S.l0 : Nat → List Int → Int → Int → Option (Int × List Int)
  | 0, _, _, _ => none
  | k + 1, x0, x1, x5 => if x5 < (x0.length : Int) then (if 0 ≤ x5 then (laws_markInt64S.l0 k (x0.set (x5 : Int).toNat x1) (wrap64 (x1 + 1)) (wrap64 (x5 + 1))) else (none)) else (some (x1, x0))
def laws_markInt64S.f (k : Nat) (l0 : List Int) (a1 : Int) : Option (Int × List Int) := laws_markInt64S.l0 k l0 a1 0
end Go.Proofs.Ytipdmnibjkdpcaa.P

namespace Go.Proofs.Ytipdmnibjkdpcaa.Pure
open Go.RowKit Go.Proofs.Ytipdmnibjkdpcaa.P Go.Proofs.YtipdmnibjkdpcaaW.PrintWords Go.Proofs.YtipdmnibjkdpcaaW.PrintLast
set_option linter.unusedVariables false
set_option linter.unusedSimpArgs false
theorem toI_l0 (l : List Int) (hb : l.length ≤ 17592186044415) : ∀ d i x, l.length - i = d → i ≤ l.length → x.length = l.length → (∀ j, j < i → x.getD j 0 = l.getD j 0) → Ev (fun k => laws_toInt64S.l0 k l x (i : Int)) l := by
  intro d
  induction d with
  | zero =>
    intro i x hd hi hx hj
    refine Ev.step (f := fun _ => some x) (fun k => ?_) ?_
    · rw [laws_toInt64S.l0, if_neg (by omega)]
    · have : x = l := list_ext x l hx (fun j h => hj j (by omega))
      rw [this]; exact Ev.now l
  | succ d ih =>
    intro i x hd hi hx hj
    refine Ev.step (fun k => ?_) (ih (i + 1) (x.set i (l.getD i 0)) (by omega) (by omega) (by simpa using hx) ?_)
    · rw [laws_toInt64S.l0, if_pos (by omega), if_pos (by omega), if_pos (by omega), wN i (by omega), rdN, Int.toNat_natCast]
    · intro j h
      rw [getD_set x i j _ (by omega)]
      by_cases e : i = j
      · rw [if_pos e, e]
      · rw [if_neg e]; exact hj j (by omega)
theorem toI (l : List Int) (hb : l.length ≤ 17592186044415) : Ev (fun k => laws_toInt64S.f k l) l := by
  refine Ev.congr (f := fun k => laws_toInt64S.l0 k l (List.replicate l.length 0) ((0 : Nat) : Int)) (fun k => ?_) (toI_l0 l hb _ 0 _ rfl (Nat.zero_le _) (by simp) (fun j h => absurd h (Nat.not_lt_zero _)))
  simp only [laws_toInt64S.f, Int.toNat_natCast]
  rw [if_pos (by omega), if_pos (by omega)]; rfl
theorem eqI_l0 (l : List Int) (hb : l.length ≤ 17592186044415) : ∀ d i, l.length - i = d → i ≤ l.length → Ev (fun k => laws_eqInt64S.l0 k l l (i : Int)) true := by
  intro d
  induction d with
  | zero =>
    intro i hd hi
    refine Ev.step (f := fun _ => some true) (fun k => ?_) (Ev.now true)
    rw [laws_eqInt64S.l0, if_neg (by omega)]
  | succ d ih =>
    intro i hd hi
    refine Ev.step (fun k => ?_) (ih (i + 1) (by omega) (by omega))
    rw [laws_eqInt64S.l0, if_pos (by omega), if_pos (by omega), if_pos (by omega), if_pos rfl, wN i (by omega)]
theorem eqI (l : List Int) (hb : l.length ≤ 17592186044415) : Ev (fun k => laws_eqInt64S.f k l l) true := by
  refine Ev.congr (f := fun k => laws_eqInt64S.l0 k l l ((0 : Nat) : Int)) (fun k => ?_) (eqI_l0 l hb _ 0 rfl (Nat.zero_le _))
  simp only [laws_eqInt64S.f, if_true]; rfl
def iota (m : Nat) : Nat → List Int
  | 0 => []
  | n + 1 => (m : Int) :: iota (m + 1) n
end Go.Proofs.Ytipdmnibjkdpcaa.Pure

namespace Go.Proofs.Ytipdmnibjkdpcaa.Pure
open Go.RowKit Go.Proofs.Ytipdmnibjkdpcaa.P Go.Proofs.YtipdmnibjkdpcaaW.PrintWords Go.Proofs.YtipdmnibjkdpcaaW.PrintLast
set_option linter.unusedVariables false
set_option linter.unusedSimpArgs false
theorem inF (a lo hi : Int) : spec_l00In.f a lo hi = some (decide (lo ≤ a) && decide (a ≤ hi)) := by
  unfold spec_l00In.f; by_cases h : lo ≤ a <;> simp [h]
theorem w8 {a : Int} (w : (Lit.int .i8 a).wf = true) : wrap64 a = a := by
  obtain ⟨h0, h1⟩ := bounds_i8 w
  exact w64 (by omega) (by omega)
def okB (a b c : Int) : Bool := (decide (1 ≤ a) && decide (a ≤ 60)) && ((decide (1 ≤ b) && decide (b ≤ 60)) && (decide (1 ≤ c) && decide (c ≤ 60)))
theorem specOk {a b c : Int} (wa : (Lit.int .i8 a).wf = true) (wb : (Lit.int .i8 b).wf = true) (wc : (Lit.int .i8 c).wf = true) : spec_l02Ok.f a b c = some (okB a b c) := by
  unfold spec_l02Ok.f okB
  rw [inF, inF, inF, w8 wa, w8 wb, w8 wc, Option.bind_some]
  cases (decide (1 ≤ a) && decide (a ≤ 60)) <;> cases (decide (1 ≤ b) && decide (b ≤ 60)) <;> rfl
theorem sidesF {a b c : Int} (wa : (Lit.int .i8 a).wf = true) (wb : (Lit.int .i8 b).wf = true) (wc : (Lit.int .i8 c).wf = true) : impl_Box_sides.f a b c = some [a, b, c] := by
  unfold impl_Box_sides.f; rw [w8 wa, w8 wb, w8 wc]
theorem implOk {a b c : Int} (wa : (Lit.int .i8 a).wf = true) (wb : (Lit.int .i8 b).wf = true) (wc : (Lit.int .i8 c).wf = true) : impl_ValidBox.f a b c = some (okB a b c) := by
  unfold impl_ValidBox.f impl_areWithin.f
  rw [sidesF wa wb wc]
  simp only [Option.bind_some, List.all_cons, List.all_nil, Bool.and_true, okB]
theorem toB (a b c : Int) : laws_toBox.f a b c = some (a, b, c) := rfl
end Go.Proofs.Ytipdmnibjkdpcaa.Pure

namespace Go.Proofs.Ytipdmnibjkdpcaa.Pure
open Go.RowKit Go.Proofs.Ytipdmnibjkdpcaa.P Go.Proofs.YtipdmnibjkdpcaaW.PrintWords Go.Proofs.YtipdmnibjkdpcaaW.PrintLast
set_option linter.unusedVariables false
set_option linter.unusedSimpArgs false
def ltx (p q : S64) : Prop := p.f0 < q.f0 ∨ (p.f0 = q.f0 ∧ (p.f1 < q.f1 ∨ (p.f1 = q.f1 ∧ p.f2 < q.f2)))
theorem ltx_asymm {p q : S64} : ltx p q → ¬ ltx q p := by unfold ltx; omega
theorem lex_trans {p q r : S64} : ¬ ltx q p → ¬ ltx r q → ¬ ltx r p := by unfold ltx; omega
theorem ltx_irrefl (p : S64) : ¬ ltx p p := by unfold ltx; omega
theorem ltx_le {p q r : S64} : ¬ ltx q p → ltx q r → ltx p r := by unfold ltx; omega
theorem S_ext {p q : S64} (h0 : p.f0 = q.f0) (h1 : p.f1 = q.f1) (h2 : p.f2 = q.f2) : p = q := by
  cases p; cases q; simp only at h0 h1 h2; subst h0 h1 h2; rfl
theorem ltx_eq {p q : S64} (h : ¬ ltx p q) (h' : ¬ ltx q p) : p = q := by
  unfold ltx at h h'
  exact S_ext (by omega) (by omega) (by omega)
def same (p q : S64) : Bool := (p.f0 == q.f0 && (p.f1 == q.f1 && p.f2 == q.f2))
theorem same_iff {p q : S64} : same p q = true ↔ p = q := by
  unfold same
  constructor
  · intro h
    simp only [Bool.and_eq_true, beq_iff_eq] at h
    exact S_ext h.1 h.2.1 h.2.2
  · rintro rfl; simp
theorem same_not (p q : S64) : (!(p.f0 == q.f0) || (!(p.f1 == q.f1) || (!(p.f2 == q.f2)))) = !same p q := by
  unfold same
  cases (p.f0 == q.f0) <;> cases (p.f1 == q.f1) <;> cases (p.f2 == q.f2) <;> rfl
theorem rise_uniq : ∀ (l m : List S64), l.Pairwise ltx → m.Pairwise ltx → (∀ s, s ∈ l ↔ s ∈ m) → l = m := by
  intro l
  induction l with
  | nil =>
    intro m _ _ h
    cases m with
    | nil => rfl
    | cons b m => exact absurd ((h b).2 (List.mem_cons_self ..)) (List.not_mem_nil)
  | cons a l ih =>
    intro m hl hm h
    cases m with
    | nil => exact absurd ((h a).1 (List.mem_cons_self ..)) (List.not_mem_nil)
    | cons b m =>
      rw [List.pairwise_cons] at hl hm
      have hab : a = b := by
        rcases List.mem_cons.1 ((h a).1 (List.mem_cons_self ..)) with e | e
        · exact e
        · rcases List.mem_cons.1 ((h b).2 (List.mem_cons_self ..)) with e' | e'
          · exact e'.symm
          · exact absurd (hm.1 a e) (ltx_asymm (hl.1 b e'))
      subst hab
      rw [ih m hl.2 hm.2 (fun s => ?_)]
      constructor
      · intro hs
        rcases List.mem_cons.1 ((h s).1 (List.mem_cons_of_mem _ hs)) with e | e
        · subst e; exact absurd (hl.1 s hs) (ltx_irrefl s)
        · exact e
      · intro hs
        rcases List.mem_cons.1 ((h s).2 (List.mem_cons_of_mem _ hs)) with e | e
        · subst e; exact absurd (hm.1 s hs) (ltx_irrefl s)
        · exact e
def c3 (a b : Int) : Int := if a < b then -1 else if a > b then 1 else 0
theorem cmpI (a b : Int) : cmp_Compare_int8.f a b = some (c3 a b) := by
  unfold cmp_Compare_int8.f cmp_isNaN_int8.f c3
  simp only [Option.bind_some, bne_self_eq_false, Bool.false_eq_true, if_false]
  split
  · rfl
  · split <;> rfl
theorem orF (x y z : Int) (k : Nat) : cmp_Or_int.f (k + 4) [x, y, z] = some (if x = 0 then (if y = 0 then z else y) else x) := by
  have l1 : (([x, y, z] : List Int).length : Int) = 3 := rfl
  have r0 : rd [x, y, z] 0 = x := rfl
  have r1 : rd [x, y, z] 1 = y := rfl
  have r2 : rd [x, y, z] 2 = z := rfl
  rw [cmp_Or_int.f, l1, show k + 4 = k + 3 + 1 from rfl, cmp_Or_int.l0, if_pos (by omega), if_pos (by omega), if_pos (by omega), r0, w64 (x := 0 + 1) (by omega) (by omega)]
  by_cases hx : x = 0
  · rw [if_pos hx, if_pos hx, show (0 : Int) + 1 = 1 from rfl, show k + 3 = k + 2 + 1 from rfl, cmp_Or_int.l0, if_pos (by omega), if_pos (by omega), if_pos (by omega), r1, w64 (x := 1 + 1) (by omega) (by omega)]
    by_cases hy : y = 0
    · rw [if_pos hy, if_pos hy, show (1 : Int) + 1 = 2 from rfl, show k + 2 = k + 1 + 1 from rfl, cmp_Or_int.l0, if_pos (by omega), if_pos (by omega), if_pos (by omega), r2, w64 (x := 2 + 1) (by omega) (by omega)]
      by_cases hz : z = 0
      · rw [if_pos hz, show (2 : Int) + 1 = 3 from rfl, cmp_Or_int.l0, if_neg (by omega), hz]
      · rw [if_neg hz]
    · rw [if_neg hy, if_neg hy]
  · rw [if_neg hx, if_neg hx]
theorem cmpEv (p q : S64) : ∃ c, (∀ k, impl_Box_turns_1.f (k + 4) p.f0 p.f1 p.f2 q.f0 q.f1 q.f2 = some c) ∧ (c < 0 ↔ ltx p q) := by
  refine ⟨_, fun k => by rw [impl_Box_turns_1.f, cmpI, cmpI, cmpI, Option.bind_some, Option.bind_some, Option.bind_some, orF, Option.bind_some], ?_⟩
  unfold c3 ltx
  by_cases h0 : p.f0 < q.f0 <;> by_cases h1 : p.f0 > q.f0 <;> by_cases h2 : p.f1 < q.f1 <;> by_cases h3 : p.f1 > q.f1 <;> by_cases h4 : p.f2 < q.f2 <;> by_cases h5 : p.f2 > q.f2 <;> simp only [h0, h1, h2, h3, h4, h5, if_true, if_false] <;> simp <;> omega
end Go.Proofs.Ytipdmnibjkdpcaa.Pure

namespace Go.Proofs.Ytipdmnibjkdpcaa.Pure
open Go.RowKit Go.Proofs.Ytipdmnibjkdpcaa.P Go.Proofs.YtipdmnibjkdpcaaW.PrintWords Go.Proofs.YtipdmnibjkdpcaaW.PrintLast
set_option linter.unusedVariables false
set_option linter.unusedSimpArgs false
theorem rdT (l : List S64) (i : Nat) : rd_T64 l (i : Int) = l.getD i z64 := rfl
theorem getD_eqG {α : Type} (z : α) (l : List α) (i : Nat) (h : i < l.length) : l.getD i z = l[i] := by
  rw [List.getD_eq_getElem?_getD, List.getElem?_eq_getElem h]; rfl
theorem getD_setG {α : Type} (z : α) (l : List α) (i j : Nat) (v : α) (h : i < l.length) : (l.set i v).getD j z = if i = j then v else l.getD j z := by
  simp only [List.getD_eq_getElem?_getD, List.getElem?_set]
  by_cases e : i = j
  · subst e; simp [h]
  · simp [e]
theorem mem_getDG {α : Type} (z : α) (l : List α) (s : α) : s ∈ l ↔ ∃ i, i < l.length ∧ l.getD i z = s := by
  rw [List.mem_iff_getElem]
  constructor
  · rintro ⟨i, hi, e⟩; exact ⟨i, hi, by rw [getD_eqG z l i hi, e]⟩
  · rintro ⟨i, hi, e⟩; exact ⟨i, hi, by rw [← getD_eqG z l i hi, e]⟩
def Srt (x : List S64) (i : Nat) : Prop := ∀ p q, p < q → q ≤ i → ¬ ltx (x.getD q z64) (x.getD p z64)
def Alike (x y : List S64) : Prop := ∀ s, s ∈ x ↔ s ∈ y
def Ins (x : List S64) (i j : Nat) : Prop := ∀ p q, p < q → q ≤ i → q ≠ j → ¬ ltx (x.getD q z64) (x.getD p z64)
def swp (x : List S64) (j : Nat) : List S64 := (x.set j (x.getD (j - 1) z64)).set (j - 1) (x.getD j z64)
theorem swp_len (x : List S64) (j : Nat) : (swp x j).length = x.length := by simp [swp]
theorem swp_at (x : List S64) (j q : Nat) (h0 : 0 < j) (hj : j < x.length) : (swp x j).getD q z64 = if q = j - 1 then x.getD j z64 else if q = j then x.getD (j - 1) z64 else x.getD q z64 := by
  unfold swp
  rw [getD_setG z64 _ _ _ _ (by rw [List.length_set]; omega), getD_setG z64 _ _ _ _ hj]
  by_cases e1 : q = j - 1
  · rw [if_pos e1, if_pos e1.symm]
  · rw [if_neg e1, if_neg (fun e => e1 e.symm)]
    by_cases e2 : q = j
    · rw [if_pos e2, if_pos e2.symm]
    · rw [if_neg e2, if_neg (fun e => e2 e.symm)]
theorem swp_mem (x : List S64) (j : Nat) (h0 : 0 < j) (hj : j < x.length) : Alike (swp x j) x := by
  intro s
  rw [mem_getDG z64, mem_getDG z64, swp_len]
  constructor
  · rintro ⟨i, hi, e⟩
    rw [swp_at x j i h0 hj] at e
    by_cases e1 : i = j - 1
    · rw [if_pos e1] at e; exact ⟨j, hj, e⟩
    · rw [if_neg e1] at e
      by_cases e2 : i = j
      · rw [if_pos e2] at e; exact ⟨j - 1, by omega, e⟩
      · rw [if_neg e2] at e; exact ⟨i, hi, e⟩
  · rintro ⟨i, hi, e⟩
    by_cases e1 : i = j - 1
    · exact ⟨j, hj, by rw [swp_at x j j h0 hj, if_neg (by omega), if_pos rfl, ← e1]; exact e⟩
    · by_cases e2 : i = j
      · exact ⟨j - 1, by omega, by rw [swp_at x j _ h0 hj, if_pos rfl, ← e2]; exact e⟩
      · exact ⟨i, hi, by rw [swp_at x j i h0 hj, if_neg e1, if_neg e2]; exact e⟩
theorem swp_ins (x : List S64) (i j : Nat) (h0 : 0 < j) (hji : j ≤ i) (hi : i < x.length) (h : Ins x i j) (hl : ltx (x.getD j z64) (x.getD (j - 1) z64)) : Ins (swp x j) i (j - 1) := by
  intro p q hpq hqi hqj
  rw [swp_at x j q h0 (by omega), swp_at x j p h0 (by omega), if_neg hqj]
  by_cases e2 : q = j
  · rw [if_pos e2]
    by_cases e3 : p = j - 1
    · rw [if_pos e3]; exact ltx_asymm hl
    · rw [if_neg e3, if_neg (by omega)]
      exact h p (j - 1) (by omega) (by omega) (by omega)
  · rw [if_neg e2]
    by_cases e3 : p = j - 1
    · rw [if_pos e3]; exact h j q (by omega) hqi e2
    · rw [if_neg e3]
      by_cases e4 : p = j
      · rw [if_pos e4]; exact h (j - 1) q (by omega) hqi e2
      · rw [if_neg e4]; exact h p q hpq hqi e2
theorem ins_srt (x : List S64) (i j : Nat) (h : Ins x i j) (he : j = 0 ∨ ¬ ltx (x.getD j z64) (x.getD (j - 1) z64)) : Srt x i := by
  intro p q hpq hqi
  by_cases e : q = j
  · subst e
    rcases he with he | he
    · omega
    · by_cases e2 : p = q - 1
      · subst e2; exact he
      · exact lex_trans (h p (q - 1) (by omega) (by omega) (by omega)) he
  · exact h p q hpq hqi e
theorem ins_l1 (n i : Nat) (hi : i < n) (hn : n ≤ 1000) : ∀ j x, x.length = n → j ≤ i → Ins x i j →
    ∃ x', x'.length = n ∧ Alike x' x ∧ Srt x' i ∧ ∀ r, Ev (fun k => impl_Box_86.l0 k x' 0 (n : Int) ((i + 1 : Nat) : Int)) r → Ev (fun k => impl_Box_86.l1 k x 0 (n : Int) (i : Int) (j : Int)) r := by
  intro j
  induction j with
  | zero =>
    intro x hx hj h
    refine ⟨x, hx, fun s => Iff.rfl, ins_srt x i 0 h (.inl rfl), fun r he => Ev.step (fun k => ?_) he⟩
    rw [impl_Box_86.l1, if_neg (by omega), wN i (by omega)]
  | succ j ih =>
    intro x hx hj h
    obtain ⟨c, hc, hcl⟩ := cmpEv (x.getD (j + 1) z64) (x.getD j z64)
    have ew : wrap64 (((j + 1 : Nat) : Int) - 1) = (j : Int) := by rw [w64 (by omega) (by omega)]; omega
    have e1 : ∀ k, impl_Box_86.l1 (k + 4 + 1) x 0 (n : Int) (i : Int) ((j + 1 : Nat) : Int) = if c < 0 then impl_Box_86.l1 (k + 4) (swp x (j + 1)) 0 (n : Int) (i : Int) (j : Int) else impl_Box_86.l0 (k + 4) x 0 (n : Int) ((i + 1 : Nat) : Int) := fun k => by
      rw [impl_Box_86.l1, if_pos (by omega), if_pos (by omega), if_pos (by omega), ew, if_pos (by omega), if_pos (by omega), rdT, rdT, hc k, Option.bind_some, wN i (by omega)]
      rfl
    by_cases hlt : ltx (x.getD (j + 1) z64) (x.getD j z64)
    · obtain ⟨x', a1, a2, a3, a4⟩ := ih (swp x (j + 1)) (by rw [swp_len, hx]) (by omega) (swp_ins x i (j + 1) (by omega) hj (by omega) h hlt)
      refine ⟨x', a1, fun s => (a2 s).trans (swp_mem x (j + 1) (by omega) (by omega) s), a3, fun r he => ?_⟩
      obtain ⟨K, hK⟩ := EvG (a4 r he)
      refine EvI (K + 5) fun k hk => ?_
      obtain ⟨m, rfl⟩ : ∃ m, k = m + 4 + 1 := ⟨k - 5, by omega⟩
      rw [e1, if_pos (hcl.2 hlt)]
      exact hK _ (by omega)
    · refine ⟨x, hx, fun s => Iff.rfl, ins_srt x i (j + 1) h (.inr hlt), fun r he => ?_⟩
      obtain ⟨K, hK⟩ := EvG he
      refine EvI (K + 5) fun k hk => ?_
      obtain ⟨m, rfl⟩ : ∃ m, k = m + 4 + 1 := ⟨k - 5, by omega⟩
      rw [e1, if_neg (fun q => hlt (hcl.1 q))]
      exact hK _ (by omega)
theorem ins_l0 (n : Nat) (hn : n ≤ 1000) : ∀ d i x, n - i = d → 1 ≤ i → i ≤ n → x.length = n → Srt x (i - 1) → ∃ y, y.length = n ∧ Alike y x ∧ Srt y (n - 1) ∧ Ev (fun k => impl_Box_86.l0 k x 0 (n : Int) (i : Int)) y := by
  intro d
  induction d with
  | zero =>
    intro i x hd h1 hi hx hs
    obtain rfl : i = n := by omega
    refine ⟨x, hx, fun s => Iff.rfl, hs, Ev.step (f := fun _ => some x) (fun k => ?_) (Ev.now _)⟩
    rw [impl_Box_86.l0, if_neg (by omega)]
  | succ d ih =>
    intro i x hd h1 hi hx hs
    obtain ⟨x', a1, a2, a3, a4⟩ := ins_l1 n i (by omega) hn i x hx (Nat.le_refl _) (fun p q hpq hqi hq => hs p q hpq (by omega))
    obtain ⟨y, b1, b2, b3, b4⟩ := ih (i + 1) x' (by omega) (by omega) (by omega) a1 (by rw [Nat.add_sub_cancel]; exact a3)
    refine ⟨y, b1, fun s => (b2 s).trans (a2 s), b3, Ev.step (fun k => ?_) (a4 y b4)⟩
    rw [impl_Box_86.l0, if_pos (by omega)]
theorem sort_small (x : List S64) (h1 : 1 ≤ x.length) (h12 : x.length ≤ 12) (r : Int) (hr : Ev (fun k => bits_Len.f k (IntKind.u64.wrap (x.length : Int))) r) : ∃ y, y.length = x.length ∧ Alike y x ∧ Srt y (x.length - 1) ∧ Ev (fun k => impl_Box_77.f k x) y := by
  obtain ⟨y, a1, a2, a3, a4⟩ := ins_l0 x.length (by omega) _ 1 x rfl (Nat.le_refl _) h1 rfl (fun p q hpq hq => by omega)
  obtain ⟨K1, hr⟩ := EvG hr
  obtain ⟨K2, a4⟩ := EvG a4
  refine ⟨y, a1, a2, a3, EvI (K1 + K2 + 3) fun k hk => ?_⟩
  obtain ⟨m, rfl⟩ : ∃ m, k = m + 2 := ⟨k - 2, by omega⟩
  rw [impl_Box_77.f, hr _ (by omega), Option.bind_some, impl_Box_83.f, impl_Box_83.l0, if_pos (by rw [w64 (by omega) (by omega)]; omega), impl_Box_86.f, w64 (x := 0 + 1) (by omega) (by omega), show (0 : Int) + 1 = ((1 : Nat) : Int) from rfl, a4 m (by omega)]
  rfl
end Go.Proofs.Ytipdmnibjkdpcaa.Pure

namespace Go.Proofs.Ytipdmnibjkdpcaa.Pure
open Go.RowKit Go.Proofs.Ytipdmnibjkdpcaa.P Go.Proofs.YtipdmnibjkdpcaaW.PrintWords Go.Proofs.YtipdmnibjkdpcaaW.PrintLast
set_option linter.unusedVariables false
set_option linter.unusedSimpArgs false
def thin (y : List S64) : Nat → List S64
  | 0 => []
  | p + 1 => if p = 0 then [y.getD 0 z64] else if same (y.getD p z64) (y.getD (p - 1) z64) = true then thin y p else thin y p ++ [y.getD p z64]
theorem thin_spec (y : List S64) (hs : Srt y (y.length - 1)) : ∀ p, p ≤ y.length → (thin y p).Pairwise ltx ∧ (∀ s, s ∈ thin y p ↔ ∃ i, i < p ∧ y.getD i z64 = s) := by
  intro p
  induction p with
  | zero => intro _; exact ⟨List.Pairwise.nil, fun s => ⟨fun h => absurd h List.not_mem_nil, fun ⟨i, hi, _⟩ => absurd hi (Nat.not_lt_zero _)⟩⟩
  | succ p ih =>
    intro hp
    obtain ⟨h1, h2⟩ := ih (by omega)
    rw [thin]
    by_cases h0 : p = 0
    · subst h0
      rw [if_pos rfl]
      refine ⟨List.pairwise_singleton _ _, fun s => ?_⟩
      rw [List.mem_singleton]
      exact ⟨fun e => ⟨0, by omega, e.symm⟩, fun ⟨i, hi, e⟩ => by have h0 : i = 0 := (by omega); rw [← e, h0]⟩
    · rw [if_neg h0]
      by_cases hq : same (y.getD p z64) (y.getD (p - 1) z64) = true
      · rw [if_pos hq]
        refine ⟨h1, fun s => (h2 s).trans ⟨fun ⟨i, hi, e⟩ => ⟨i, by omega, e⟩, fun ⟨i, hi, e⟩ => ?_⟩⟩
        by_cases e2 : i = p
        · subst e2; exact ⟨i - 1, by omega, by rw [← same_iff.1 hq]; exact e⟩
        · exact ⟨i, by omega, e⟩
      · rw [if_neg hq]
        refine ⟨List.pairwise_append.2 ⟨h1, List.pairwise_singleton _ _, fun a ha b hb => ?_⟩, fun s => ?_⟩
        · rw [List.mem_singleton.1 hb]
          obtain ⟨i, hi, e⟩ := (h2 a).1 ha
          have g1 : ltx (y.getD (p - 1) z64) (y.getD p z64) := by
            apply Classical.byContradiction
            intro hn
            exact hq (same_iff.2 (ltx_eq (hs (p - 1) p (by omega) (by omega)) hn))
          subst e
          by_cases e2 : i = p - 1
          · rw [e2]; exact g1
          · exact ltx_le (hs i (p - 1) (by omega) (by omega)) g1
        · rw [List.mem_append, List.mem_singleton, h2 s]
          constructor
          · rintro (⟨i, hi, e⟩ | e)
            · exact ⟨i, by omega, e⟩
            · exact ⟨p, by omega, e.symm⟩
          · rintro ⟨i, hi, e⟩
            by_cases e2 : i = p
            · subst e2; exact .inr e.symm
            · exact .inl ⟨i, by omega, e⟩
theorem getD_drop (y : List S64) (k i : Nat) : (y.drop k).getD i z64 = y.getD (k + i) z64 := by
  simp only [List.getD_eq_getElem?_getD, List.getElem?_drop]
theorem take_set (x : List S64) (k : Nat) (v : S64) (h : k < x.length) : (x.set k v).take (k + 1) = x.take k ++ [v] := by
  rw [List.take_add_one, List.take_set_of_le (Nat.le_refl _), List.getElem?_set_self h]; rfl
theorem comp_l1 (y : List S64) (hn : y.length ≤ 1000) (k0 : Nat) : ∀ d k2 x0 k, y.length - (k0 + k2) = d → 1 ≤ k2 → k0 + k2 ≤ y.length → x0.length = y.length → k < k0 + k2 → x0.take k = thin y (k0 + k2) → k = (thin y (k0 + k2)).length →
    Ev (fun q => impl_Box_81.l1 q x0 (k : Int) (y.drop k0) (k2 : Int)) (thin y y.length) := by
  intro d
  induction d with
  | zero =>
    intro k2 x0 k hd h1 hi hx hk ht hl
    have e : k0 + k2 = y.length := by omega
    rw [e] at ht
    refine Ev.step (f := fun _ => some (thin y y.length)) (fun q => ?_) (Ev.now _)
    rw [impl_Box_81.l1, if_neg (by rw [List.length_drop]; omega), if_pos (by omega), if_pos (by omega), Int.toNat_natCast, ht]
  | succ d ih =>
    intro k2 x0 k hd h1 hi hx hk ht hl
    have ew : wrap64 ((k2 : Int) - 1) = ((k2 - 1 : Nat) : Int) := by rw [w64 (by omega) (by omega)]; omega
    have e3 : thin y (k0 + (k2 + 1)) = if same (y.getD (k0 + k2) z64) (y.getD (k0 + k2 - 1) z64) = true then thin y (k0 + k2) else thin y (k0 + k2) ++ [y.getD (k0 + k2) z64] := by
      rw [← Nat.add_assoc, thin, if_neg (by omega)]
    have g0 : rd_T64 (y.drop k0) (k2 : Int) = y.getD (k0 + k2) z64 := by rw [rdT, getD_drop]
    have g1 : rd_T64 (y.drop k0) ((k2 - 1 : Nat) : Int) = y.getD (k0 + k2 - 1) z64 := by rw [rdT, getD_drop]; congr 1; omega
    have hd2 : (y.drop k0).length = y.length - k0 := List.length_drop
    by_cases hq : same (y.getD (k0 + k2) z64) (y.getD (k0 + k2 - 1) z64) = true
    · rw [if_pos hq] at e3
      refine Ev.step (fun q => ?_) (ih (k2 + 1) x0 k (by omega) (by omega) (by omega) hx (by omega) (by rw [e3]; exact ht) (by rw [e3]; exact hl))
      rw [impl_Box_81.l1, if_pos (by omega), if_pos (by omega), ew, if_pos (by omega), if_pos (by omega), g0, g1, same_not, if_neg (by rw [hq]; simp), wN k2 (by omega)]
    · rw [if_neg hq] at e3
      refine Ev.step (fun q => ?_) (ih (k2 + 1) (x0.set k (y.getD (k0 + k2) z64)) (k + 1) (by omega) (by omega) (by omega) (by rw [List.length_set, hx]) (by omega) (by rw [e3, take_set x0 k _ (by omega), ht]) (by rw [e3, List.length_append, ← hl]; rfl))
      rw [impl_Box_81.l1, if_pos (by omega), if_pos (by omega), ew, if_pos (by omega), if_pos (by omega), g0, g1, same_not, if_pos (by simpa using hq), if_pos (by omega), if_pos (by omega), wN k2 (by omega), wN k (by omega), Int.toNat_natCast]
theorem comp_l0 (y : List S64) (hn : y.length ≤ 1000) : ∀ d i, y.length - i = d → 1 ≤ i → i ≤ y.length → thin y i = y.take i → Ev (fun q => impl_Box_81.l0 q y (i : Int)) (thin y y.length) := by
  intro d
  induction d with
  | zero =>
    intro i hd h1 hi ht
    obtain rfl : i = y.length := by omega
    rw [List.take_length] at ht
    refine Ev.step (f := fun _ => some y) (fun q => ?_) (by rw [ht]; exact Ev.now _)
    rw [impl_Box_81.l0, if_neg (by omega)]
  | succ d ih =>
    intro i hd h1 hi ht
    have ew : wrap64 ((i : Int) - 1) = ((i - 1 : Nat) : Int) := by rw [w64 (by omega) (by omega)]; omega
    have e3 : thin y (i + 1) = if same (y.getD i z64) (y.getD (i - 1) z64) = true then thin y i else thin y i ++ [y.getD i z64] := by
      rw [thin, if_neg (by omega)]
    have hl : (thin y i).length = i := by rw [ht, List.length_take]; omega
    by_cases hq : same (y.getD i z64) (y.getD (i - 1) z64) = true
    · rw [if_pos hq] at e3
      refine Ev.step (fun q => ?_) (comp_l1 y hn i _ 1 y i rfl (Nat.le_refl _) (by omega) rfl (by omega) (by rw [e3, ht]) (by rw [e3, hl]))
      have hq' : (((y.getD i z64).f0 == (y.getD (i - 1) z64).f0) && (((y.getD i z64).f1 == (y.getD (i - 1) z64).f1) && ((y.getD i z64).f2 == (y.getD (i - 1) z64).f2))) = true := hq
      rw [impl_Box_81.l0, if_pos (by omega), if_pos (by omega), ew, if_pos (by omega), if_pos (by omega), rdT, rdT, if_pos hq', if_pos (by omega), Int.toNat_natCast]
      rfl
    · rw [if_neg hq] at e3
      refine Ev.step (fun q => ?_) (ih (i + 1) (by omega) (by omega) (by omega) (by rw [e3, ht, List.take_add_one, List.getD_eq_getElem?_getD, List.getElem?_eq_getElem (by omega)]; rfl))
      have hq' : ¬ (((y.getD i z64).f0 == (y.getD (i - 1) z64).f0) && (((y.getD i z64).f1 == (y.getD (i - 1) z64).f1) && ((y.getD i z64).f2 == (y.getD (i - 1) z64).f2))) = true := hq
      rw [impl_Box_81.l0, if_pos (by omega), if_pos (by omega), ew, if_pos (by omega), if_pos (by omega), rdT, rdT, if_neg hq', wN i (by omega)]
theorem compF (y : List S64) (hn : y.length ≤ 1000) (h2 : 2 ≤ y.length) : Ev (fun q => impl_Box_81.f q y) (thin y y.length) := by
  obtain ⟨K, h⟩ := EvG (comp_l0 y hn _ 1 rfl (Nat.le_refl _) (by omega) (by
    rw [thin, if_pos rfl]
    cases y with
    | nil => simp at h2
    | cons a y => rfl))
  refine EvI K fun q hq => ?_
  rw [impl_Box_81.f, if_neg (by omega)]
  exact h q hq
end Go.Proofs.Ytipdmnibjkdpcaa.Pure

namespace Go.Proofs.Ytipdmnibjkdpcaa.Pure
open Go.RowKit Go.Proofs.Ytipdmnibjkdpcaa.P Go.Proofs.YtipdmnibjkdpcaaW.PrintWords Go.Proofs.YtipdmnibjkdpcaaW.PrintLast
set_option linter.unusedVariables false
set_option linter.unusedSimpArgs false
def six (a b c : Int) : List S64 := [⟨a, b, c⟩, ⟨a, c, b⟩, ⟨b, a, c⟩, ⟨b, c, a⟩, ⟨c, a, b⟩, ⟨c, b, a⟩]
theorem len6 : ∃ r, Ev (fun k => bits_Len.f k (IntKind.u64.wrap ((6 : Nat) : Int))) r := by
  have h : bits_Len.f 1 (IntKind.u64.wrap ((6 : Nat) : Int)) = some 3 := by decide +kernel
  exact ⟨3, Ev.of (fun k => bits_Len.mono _ k) h⟩
theorem turnsI (a b c : Int) : ∃ l : List S64, l.Pairwise ltx ∧ (∀ s, s ∈ l ↔ s ∈ six a b c) ∧ Ev (fun k => impl_Box_turns.f k a b c) l := by
  obtain ⟨r, hr⟩ := len6
  obtain ⟨y, hy1, hy2, hy3, hy4⟩ := sort_small (six a b c) (by simp [six]) (by simp [six]) r hr
  have hl : y.length = 6 := by rw [hy1]; rfl
  obtain ⟨h1, h2⟩ := thin_spec y (by rw [hy1]; exact hy3) y.length (Nat.le_refl _)
  refine ⟨thin y y.length, h1, fun s => ?_, ?_⟩
  · rw [h2 s, ← mem_getDG z64, hy2 s]
  · obtain ⟨K1, h4⟩ := EvG hy4
    obtain ⟨K2, h5⟩ := EvG (compF y (by omega) (by omega))
    refine EvI (K1 + K2) fun k hk => ?_
    rw [impl_Box_turns.f]
    show (impl_Box_77.f k (six a b c)).bind _ = _
    rw [h4 k (by omega), Option.bind_some, h5 k (by omega), Option.bind_some]
def ded : List S64 → List S64 → List S64
  | acc, [] => acc
  | acc, a :: l => if acc.any (fun x => same x a) = true then ded acc l else ded (acc ++ [a]) l
def Good : List S64 → List S64 → Prop
  | _, [] => True
  | acc, a :: l => (a ∈ acc ∧ Good acc l) ∨ ((∀ x ∈ acc, ltx x a) ∧ Good (acc ++ [a]) l)
theorem ded_spec : ∀ (l acc : List S64), acc.Pairwise ltx → Good acc l →
    (ded acc l).Pairwise ltx ∧ ∀ s, s ∈ ded acc l ↔ (s ∈ acc ∨ s ∈ l) := by
  intro l
  induction l with
  | nil => intro acc h _; exact ⟨h, fun s => by simp [ded]⟩
  | cons a l ih =>
    intro acc h h2
    rw [ded]
    rcases h2 with ⟨hm, h2⟩ | ⟨hn, h2⟩
    · have hq : (acc.any fun x => same x a) = true := List.any_eq_true.2 ⟨a, hm, same_iff.2 rfl⟩
      rw [if_pos hq]
      obtain ⟨g1, g2⟩ := ih acc h h2
      refine ⟨g1, fun s => (g2 s).trans ⟨fun e => e.imp id (List.mem_cons_of_mem _), fun e => ?_⟩⟩
      rcases e with e | e
      · exact .inl e
      · rcases List.mem_cons.1 e with e | e
        · rw [e]; exact .inl hm
        · exact .inr e
    · rw [if_neg (fun hq => by
        obtain ⟨x, hx, hs⟩ := List.any_eq_true.1 hq
        have := hn x hx
        rw [same_iff.1 hs] at this
        exact ltx_irrefl _ this)]
      obtain ⟨g1, g2⟩ := ih (acc ++ [a]) (List.pairwise_append.2 ⟨h, List.pairwise_singleton _ _, fun x hx b hb => by rw [List.mem_singleton.1 hb]; exact hn x hx⟩) h2
      refine ⟨g1, fun s => (g2 s).trans ?_⟩
      rw [List.mem_append, List.mem_singleton, List.mem_cons, or_assoc]
theorem sortS (a b c : Int) : ∃ p q r : Int, r ≤ q ∧ q ≤ p ∧ (∀ k, spec_l02Sort.f (k + 2) a b c = some (p, q, r)) ∧ (∀ s, s ∈ six p q r ↔ s ∈ six a b c) := by
  have e : ∀ k, spec_l02Sort.f (k + 2) a b c = if a < b then (if a < c then (if b < c then some (c, b, a) else some (b, c, a)) else (if b < a then some (a, b, c) else some (b, a, c))) else (if b < c then (if a < c then some (c, a, b) else some (a, c, b)) else (if a < b then some (b, a, c) else some (a, b, c))) := fun k => by
    rw [spec_l02Sort.f, spec_l02Sort.j0, spec_l02Sort.j0, spec_l02Sort.j1, spec_l02Sort.j1, spec_l02Sort.j1, spec_l02Sort.j1]
  have m1 : ∀ s, s ∈ six a b c ↔ s ∈ six a b c := fun s => Iff.rfl
  have m2 : ∀ s, s ∈ six b a c ↔ s ∈ six a b c := fun s => by simp only [six, List.mem_cons, List.not_mem_nil, or_false]; exact ⟨fun h => by rcases h with h | h | h | h | h | h <;> simp [h], fun h => by rcases h with h | h | h | h | h | h <;> simp [h]⟩
  have m3 : ∀ s, s ∈ six a c b ↔ s ∈ six a b c := fun s => by simp only [six, List.mem_cons, List.not_mem_nil, or_false]; exact ⟨fun h => by rcases h with h | h | h | h | h | h <;> simp [h], fun h => by rcases h with h | h | h | h | h | h <;> simp [h]⟩
  have m4 : ∀ s, s ∈ six c a b ↔ s ∈ six a b c := fun s => by simp only [six, List.mem_cons, List.not_mem_nil, or_false]; exact ⟨fun h => by rcases h with h | h | h | h | h | h <;> simp [h], fun h => by rcases h with h | h | h | h | h | h <;> simp [h]⟩
  have m5 : ∀ s, s ∈ six b c a ↔ s ∈ six a b c := fun s => by simp only [six, List.mem_cons, List.not_mem_nil, or_false]; exact ⟨fun h => by rcases h with h | h | h | h | h | h <;> simp [h], fun h => by rcases h with h | h | h | h | h | h <;> simp [h]⟩
  have m6 : ∀ s, s ∈ six c b a ↔ s ∈ six a b c := fun s => by simp only [six, List.mem_cons, List.not_mem_nil, or_false]; exact ⟨fun h => by rcases h with h | h | h | h | h | h <;> simp [h], fun h => by rcases h with h | h | h | h | h | h <;> simp [h]⟩
  by_cases h1 : a < b
  · by_cases h2 : a < c
    · by_cases h3 : b < c
      · exact ⟨c, b, a, by omega, by omega, fun k => by rw [e, if_pos h1, if_pos h2, if_pos h3], m6⟩
      · exact ⟨b, c, a, by omega, by omega, fun k => by rw [e, if_pos h1, if_pos h2, if_neg h3], m5⟩
    · exact ⟨b, a, c, by omega, by omega, fun k => by rw [e, if_pos h1, if_neg h2, if_neg (by omega)], m2⟩
  · by_cases h2 : b < c
    · by_cases h3 : a < c
      · exact ⟨c, a, b, by omega, by omega, fun k => by rw [e, if_neg h1, if_pos h2, if_pos h3], m4⟩
      · exact ⟨a, c, b, by omega, by omega, fun k => by rw [e, if_neg h1, if_pos h2, if_neg h3], m3⟩
    · exact ⟨a, b, c, by omega, by omega, fun k => by rw [e, if_neg h1, if_neg h2, if_neg h1], m1⟩
theorem turnsB (a b c : Int) : ∃ (l : List S64) (p q r : Int), l.Pairwise ltx ∧ (∀ s, s ∈ l ↔ s ∈ six a b c) ∧ Ev (fun k => impl_Box_turns.f k a b c) l ∧
    (∀ k, spec_l02Sort.f (k + 2) a b c = some (p, q, r)) ∧ 1 ≤ l.length ∧ l.length ≤ 900 ∧ l.getD (l.length - 1) z64 = ⟨p, q, r⟩ := by
  obtain ⟨l, h1, h2, h3⟩ := turnsI a b c
  obtain ⟨p, q, r, o1, o2, hs, hm⟩ := sortS a b c
  obtain ⟨al, hal⟩ : ∃ al : List S64, al = [⟨r, q, p⟩, ⟨r, p, q⟩, ⟨q, r, p⟩, ⟨q, p, r⟩, ⟨p, r, q⟩, ⟨p, q, r⟩] := ⟨_, rfl⟩
  have hall : al.length = 6 := by rw [hal]; rfl
  have hw : Good [] al := by
    rw [hal]
    by_cases e1 : r = q
    · subst e1
      by_cases e2 : r = p
      · subst e2
        simp [Good]
      · have e3 : r < p := by omega
        simp [Good, ltx, e3]
    · have e3 : r < q := by omega
      by_cases e2 : q = p
      · subst e2
        simp [Good, ltx, e3]
      · have e4 : q < p := by omega
        have e5 : r < p := by omega
        simp [Good, ltx, e3, e4, e5]
  obtain ⟨g1, g2⟩ := ded_spec al [] List.Pairwise.nil hw
  have hmem : ∀ s, s ∈ al ↔ s ∈ six a b c := fun s => by
    rw [← hm s, hal]
    simp only [six, List.mem_cons, List.not_mem_nil, or_false]
    exact ⟨fun h => by rcases h with h | h | h | h | h | h <;> simp [h], fun h => by rcases h with h | h | h | h | h | h <;> simp [h]⟩
  have hd : ded [] al = l := rise_uniq _ _ g1 h1 (fun s => by rw [g2 s, h2 s, ← hmem s]; simp)
  have hlast : (⟨p, q, r⟩ : S64) ∈ l := by rw [h2, ← hmem, hal]; simp
  have hpos : 1 ≤ l.length := List.length_pos_of_mem hlast
  have hle : l.length ≤ 900 := by
    have hdl : ∀ (x acc : List S64), (ded acc x).length ≤ acc.length + x.length := by
      intro x
      induction x with
      | nil => intro acc; simp [ded]
      | cons t x ih =>
        intro acc
        rw [ded]
        split
        · have := ih acc; simp; omega
        · have := ih (acc ++ [t]); simp at this ⊢; omega
    have := hdl al []
    rw [hd, hall] at this
    simp at this; omega
  refine ⟨l, p, q, r, h1, h2, h3, hs, hpos, hle, ?_⟩
  obtain ⟨i, hi, hie⟩ := (mem_getDG z64 l _).1 hlast
  by_cases e : i = l.length - 1
  · rw [← e, hie]
  · exfalso
    have hlt := List.pairwise_iff_getElem.1 h1 i (l.length - 1) hi (by omega) (by omega)
    rw [← getD_eqG z64 l i hi, ← getD_eqG z64 l _ (by omega), hie] at hlt
    have hin : l.getD (l.length - 1) z64 ∈ al := by rw [hmem, ← h2, getD_eqG z64 l _ (by omega)]; exact List.getElem_mem _
    rw [hal] at hin
    generalize l.getD (l.length - 1) z64 = s at hlt hin
    simp only [List.mem_cons, List.not_mem_nil, or_false] at hin
    unfold ltx at hlt
    rcases hin with rfl | rfl | rfl | rfl | rfl | rfl <;> simp only at hlt <;> omega
end Go.Proofs.Ytipdmnibjkdpcaa.Pure

namespace Go.Proofs.Ytipdmnibjkdpcaa.Pure
open Go.RowKit Go.Proofs.Ytipdmnibjkdpcaa.P Go.Proofs.YtipdmnibjkdpcaaW.PrintWords Go.Proofs.YtipdmnibjkdpcaaW.PrintLast
set_option linter.unusedVariables false
set_option linter.unusedSimpArgs false
theorem eqBF (a b c : Int) : laws_eqBox.f a b c a b c = some true := by
  rw [laws_eqBox.f, if_pos rfl, if_pos rfl, if_pos rfl]
theorem eqB_l0 (l : List S64) (hb : l.length ≤ 17592186044415) : ∀ d i, l.length - i = d → i ≤ l.length → Ev (fun k => laws_eqBoxS.l0 k l l (i : Int)) true := by
  intro d
  induction d with
  | zero =>
    intro i hd hi
    refine Ev.step (f := fun _ => some true) (fun k => ?_) (Ev.now _)
    rw [laws_eqBoxS.l0, if_neg (by omega)]
  | succ d ih =>
    intro i hd hi
    refine Ev.step (fun k => ?_) (ih (i + 1) (by omega) (by omega))
    rw [laws_eqBoxS.l0, if_pos (by omega), if_pos (by omega), if_pos (by omega), eqBF, Option.bind_some, if_pos rfl, wN i (by omega)]
theorem eqB (l : List S64) (hb : l.length ≤ 17592186044415) : Ev (fun k => laws_eqBoxS.f k l l) true := by
  refine Ev.congr (f := fun k => laws_eqBoxS.l0 k l l ((0 : Nat) : Int)) (fun k => ?_) (eqB_l0 l hb _ 0 rfl (Nat.zero_le _))
  rw [laws_eqBoxS.f, if_pos rfl]; rfl
theorem getD_memG (l : List S64) (i : Nat) (h : i < l.length) : l.getD i z64 ∈ l := by rw [getD_eqG z64 l i h]; exact List.getElem_mem h
end Go.Proofs.Ytipdmnibjkdpcaa.Pure

namespace Go.Proofs.Ytipdmnibjkdpcaa.Pure
open Go.RowKit Go.Proofs.Ytipdmnibjkdpcaa.P Go.Proofs.YtipdmnibjkdpcaaW.PrintWords Go.Proofs.YtipdmnibjkdpcaaW.PrintLast
set_option linter.unusedVariables false
set_option linter.unusedSimpArgs false
theorem rdT66 (l : List S66) (i : Nat) : rd_T66 l (i : Int) = l.getD i z66 := rfl
theorem list_extT (a b : List S64) (hl : a.length = b.length) (h : ∀ j, j < b.length → a.getD j z64 = b.getD j z64) : a = b := by
  apply List.ext_getElem hl
  intro i h1 h2
  have := h i h2
  rwa [getD_eqG z64 a i h1, getD_eqG z64 b i h2] at this
def cvb (x : S66) : S64 := ⟨x.f0, x.f1, x.f2⟩
theorem szB (l : List S66) (a : Int) (h0 : 0 ≤ a) (h1 : a ≤ 1048576) (hl : l.length ≤ 9223372036854775807) : laws_szBoxS.f l a = some (if (l.length : Int) ≤ a then a - l.length else -1) := by
  unfold laws_szBoxS.f
  rw [w64 (by omega) (by omega)]
  split <;> split <;> first | rfl | omega
theorem toBS_l0 (l : List S66) (hb : l.length ≤ 1048576) : ∀ d i (x : List S64), l.length - i = d → i ≤ l.length → x.length = l.length → (∀ j, j < i → x.getD j z64 = cvb (l.getD j z66)) → Ev (fun k => laws_toBoxS.l0 k l x (i : Int)) (l.map cvb) := by
  intro d
  induction d with
  | zero =>
    intro i x hd hi hx hj
    refine Ev.step (f := fun _ => some x) (fun k => ?_) ?_
    · rw [laws_toBoxS.l0, if_neg (by omega)]
    · have : x = l.map cvb := list_extT x _ (by rw [List.length_map, hx]) (fun j h => by
        rw [List.length_map] at h
        rw [hj j (by omega), getD_eqG z64 _ j (by rw [List.length_map]; exact h), List.getElem_map, getD_eqG z66 l j h])
      rw [this]; exact Ev.now _
  | succ d ih =>
    intro i x hd hi hx hj
    refine Ev.step (fun k => ?_) (ih (i + 1) (x.set i (cvb (l.getD i z66))) (by omega) (by omega) (by simpa using hx) ?_)
    · rw [laws_toBoxS.l0, if_pos (by omega), if_pos (by omega), toB, Option.bind_some, if_pos (by omega), wN i (by omega), rdT66, Int.toNat_natCast]
      rfl
    · intro j h
      rw [getD_setG z64 x i j _ (by omega)]
      by_cases e : i = j
      · rw [if_pos e, e]
      · rw [if_neg e]; exact hj j (by omega)
theorem toBS (l : List S66) (hb : l.length ≤ 1048576) : Ev (fun k => laws_toBoxS.f k l) (l.map cvb) := by
  refine Ev.congr (f := fun k => laws_toBoxS.l0 k l (List.replicate l.length z64) ((0 : Nat) : Int)) (fun k => ?_) (toBS_l0 l hb _ 0 _ rfl (Nat.zero_le _) (by simp) (fun j h => absurd h (Nat.not_lt_zero _)))
  simp only [laws_toBoxS.f, Int.toNat_natCast]
  rw [if_pos (by omega), if_pos (by omega)]; rfl
def okS (s : S64) : Bool := okB s.f0 s.f1 s.f2
def boxesOk (l : List S64) : Bool := decide (l.length ≤ 10) && l.all okS
def wfS (l : List S64) : Prop := ∀ s ∈ l, (Lit.int .i8 s.f0).wf = true ∧ (Lit.int .i8 s.f1).wf = true ∧ (Lit.int .i8 s.f2).wf = true
theorem wf_cvb {l : List S66} (h : ∀ x ∈ l, (Lit.int .i8 x.f0).wf = true ∧ (Lit.int .i8 x.f1).wf = true ∧ (Lit.int .i8 x.f2).wf = true) : wfS (l.map cvb) := by
  intro s hs
  obtain ⟨x, hx, rfl⟩ := List.mem_map.1 hs
  exact h x hx
theorem any_l0 (l : List S64) (hb : l.length ≤ 1048576) (hw : wfS l) : ∀ d i, l.length - i = d → i ≤ l.length → (∀ j, j < i → okS (l.getD j z64) = true) → ∃ r : Int, Ev (fun k => impl_Box_72.l0 k l (l.length : Int) (i : Int)) r ∧ decide (r ≥ 0) = !(l.all okS) := by
  intro d
  induction d with
  | zero =>
    intro i hd hi hj
    refine ⟨-1, Ev.step (f := fun _ => some (-1)) (fun k => by rw [impl_Box_72.l0, if_neg (by omega)]) (Ev.now _), ?_⟩
    have e : l.all okS = true := List.all_eq_true.2 (fun s hs => by
      obtain ⟨j, h1, rfl⟩ := (mem_getDG z64 l s).1 hs
      exact hj j (by omega))
    rw [e]; rfl
  | succ d ih =>
    intro i hd hi hj
    obtain ⟨w0, w1, w2⟩ := hw _ (getD_memG l i (by omega))
    have e : ∀ k, impl_Box_72.l0 (k + 1) l (l.length : Int) (i : Int) = if (!okS (l.getD i z64)) = true then some (i : Int) else impl_Box_72.l0 k l (l.length : Int) ((i + 1 : Nat) : Int) := fun k => by
      rw [impl_Box_72.l0, if_pos (by omega), if_pos (by omega), if_pos (by omega), impl_boxesCode_1.f, rdT, implOk w0 w1 w2, Option.bind_some, Option.bind_some, wN i (by omega)]
      rfl
    by_cases c : okS (l.getD i z64) = true
    · obtain ⟨r, r1, r2⟩ := ih (i + 1) (by omega) (by omega) (fun j h => by
        by_cases e : j = i
        · subst e; exact c
        · exact hj j (by omega))
      exact ⟨r, Ev.step (fun k => by rw [e, c, if_neg (by decide)]) r1, r2⟩
    · have c' : okS (l.getD i z64) = false := by simpa using c
      refine ⟨(i : Int), Ev.step (f := fun _ => some (i : Int)) (fun k => by rw [e, c', if_pos (by decide)]) (Ev.now _), ?_⟩
      have e : l.all okS = false := by
        cases h : l.all okS with
        | false => rfl
        | true => exact absurd (List.all_eq_true.1 h _ (getD_memG l i (by omega))) c
      rw [e]; simp
theorem codeI (l : List S64) (hb : l.length ≤ 1048576) (hw : wfS l) : Ev (fun k => impl_boxesCode.f k l) (if boxesOk l = true then 0 else 1) := by
  obtain ⟨r, r1, r2⟩ := any_l0 l hb hw _ 0 rfl (Nat.zero_le _) (fun j h => absurd h (Nat.not_lt_zero _))
  obtain ⟨K, r1⟩ := EvG r1
  refine EvI K fun k hk => ?_
  have h1 : impl_Box_72.f k l = some r := r1 k hk
  rw [impl_boxesCode.f, boxesOk]
  by_cases c : l.length ≤ 10
  · rw [if_pos (by omega), impl_Box_60.f, h1, Option.bind_some, Option.bind_some, r2, Bool.not_not, impl_unless.f, decide_eq_true c, Bool.true_and]
    cases l.all okS <;> rfl
  · rw [if_neg (by omega), impl_unless.f, decide_eq_false c, Bool.false_and]
    rfl
theorem boxes_l0 (l : List S64) (hb : l.length ≤ 1048576) (hw : wfS l) : ∀ d i, l.length - i = d → i ≤ l.length → (∀ j, j < i → okS (l.getD j z64) = true) → Ev (fun k => spec_l02Boxes.l0 k l (i : Int)) (boxesOk l) := by
  intro d
  induction d with
  | zero =>
    intro i hd hi hj
    have e : l.all okS = true := List.all_eq_true.2 (fun s hs => by
      obtain ⟨j, h1, rfl⟩ := (mem_getDG z64 l s).1 hs
      exact hj j (by omega))
    refine Ev.step (f := fun _ => some (boxesOk l)) (fun k => ?_) (Ev.now _)
    rw [spec_l02Boxes.l0, if_neg (by omega), boxesOk, e, Bool.and_true]
    congr 1
    by_cases c : l.length ≤ 10 <;> simp [c] <;> omega
  | succ d ih =>
    intro i hd hi hj
    obtain ⟨w0, w1, w2⟩ := hw _ (getD_memG l i (by omega))
    have e : ∀ k, spec_l02Boxes.l0 (k + 1) l (i : Int) = if okS (l.getD i z64) = true then spec_l02Boxes.l0 k l ((i + 1 : Nat) : Int) else some false := fun k => by
      rw [spec_l02Boxes.l0, if_pos (by omega), if_pos (by omega), rdT, specOk w0 w1 w2, Option.bind_some, wN i (by omega)]
      rfl
    by_cases c : okS (l.getD i z64) = true
    · exact Ev.step (fun k => by rw [e, if_pos c]) (ih (i + 1) (by omega) (by omega) (fun j h => by
        by_cases e : j = i
        · subst e; exact c
        · exact hj j (by omega)))
    · have e2 : boxesOk l = false := by
        have : l.all okS = false := by
          cases h : l.all okS with
          | false => rfl
          | true => exact absurd (List.all_eq_true.1 h _ (getD_memG l i (by omega))) c
        rw [boxesOk, this, Bool.and_false]
      rw [e2]
      exact Ev.step (f := fun _ => some false) (fun k => by rw [e, if_neg c]) (Ev.now _)
theorem codeS (l : List S64) (hb : l.length ≤ 1048576) (hw : wfS l) : Ev (fun k => spec_l02Boxes.f k l) (boxesOk l) :=
  boxes_l0 l hb hw _ 0 rfl (Nat.zero_le _) (fun j h => absurd h (Nat.not_lt_zero _))
end Go.Proofs.Ytipdmnibjkdpcaa.Pure

namespace Go.Proofs.Ytipdmnibjkdpcaa.Pure
open Go.RowKit Go.Proofs.Ytipdmnibjkdpcaa.P Go.Proofs.YtipdmnibjkdpcaaW.PrintWords Go.Proofs.YtipdmnibjkdpcaaW.PrintLast
set_option linter.unusedVariables false
theorem sortedB (a b c : Int) : ∃ p q r : Int, Ev (fun k => impl_Box_sorted.f k a b c) (p, q, r) ∧ Ev (fun k => spec_l02Sort.f k a b c) (p, q, r) := by
  obtain ⟨l, p, q, r, _, _, hI, hs, h1, h9, hl⟩ := turnsB a b c
  obtain ⟨K, hI⟩ := EvG hI
  have ew : wrap64 ((l.length : Int) - 1) = ((l.length - 1 : Nat) : Int) := by rw [w64 (by omega) (by omega)]; omega
  refine ⟨p, q, r, EvI K fun k hk => ?_, EvI 2 fun k hk => ?_⟩
  · rw [impl_Box_sorted.f, hI k hk, Option.bind_some, ew, if_pos (by omega), if_pos (by omega), rdT, hl]
  · obtain ⟨m, rfl⟩ : ∃ m, k = m + 2 := ⟨k - 2, by omega⟩
    exact hs m
theorem insideB (a b c u v w : Int) : ∃ t : Bool, Ev (fun k => impl_Box_inside.f k a b c u v w) t ∧ Ev (fun k => spec_l02Inside.f k a b c u v w) t := by
  obtain ⟨p, q, r, i1, s1⟩ := sortedB a b c
  obtain ⟨x, y, z, i2, s2⟩ := sortedB u v w
  obtain ⟨K1, i1⟩ := EvG i1
  obtain ⟨K2, i2⟩ := EvG i2
  obtain ⟨K3, s1⟩ := EvG s1
  obtain ⟨K4, s2⟩ := EvG s2
  have eI : ∀ k, K1 + K2 ≤ k → impl_Box_inside.f k a b c u v w = if p < x then (if q < y then some (decide (r < z)) else some false) else some false := fun k hk => by
    rw [impl_Box_inside.f, i1 k (by omega), Option.bind_some, i2 k (by omega), Option.bind_some]
  have eS : ∀ k, K3 + K4 ≤ k → spec_l02Inside.f k a b c u v w = if p < x then (if q < y then some (decide (r < z)) else some false) else some false := fun k hk => by
    rw [spec_l02Inside.f, s1 k (by omega), Option.bind_some, s2 k (by omega), Option.bind_some]
  by_cases c1 : p < x
  · by_cases c2 : q < y
    · exact ⟨_, EvI _ fun k hk => by rw [eI k hk, if_pos c1, if_pos c2], EvI _ fun k hk => by rw [eS k hk, if_pos c1, if_pos c2]⟩
    · exact ⟨_, EvI _ fun k hk => by rw [eI k hk, if_pos c1, if_neg c2], EvI _ fun k hk => by rw [eS k hk, if_pos c1, if_neg c2]⟩
  · exact ⟨_, EvI _ fun k hk => by rw [eI k hk, if_neg c1], EvI _ fun k hk => by rw [eS k hk, if_neg c1]⟩
end Go.Proofs.Ytipdmnibjkdpcaa.Pure

namespace Go.Proofs.Ytipdmnibjkdpcaa.P
open Go.RowKit Go.Proofs.YtipdmnibjkdpcaaW.PrintWords Go.Proofs.YtipdmnibjkdpcaaW.PrintLast Go.Proofs.YtipdmnibjkdpcaaW.PrintMore
attribute [local go_sem] max2_int min2_int max_two min_two max_three min_three max_four min_four
set_option linter.unusedVariables false
set_option linter.unusedSimpArgs false
def spec_l00Own.f (l0 : List Int) : Option (List Int) := (some (([] : List Int) : List Int)).bind fun y250 => (if y250.length + l0.length < 17592186044416 then (some (y250 ++ l0)) else (none))
end Go.Proofs.Ytipdmnibjkdpcaa.P

namespace Go.Proofs.Ytipdmnibjkdpcaa.Pure
open Go.RowKit Go.Proofs.Ytipdmnibjkdpcaa.P Go.Proofs.YtipdmnibjkdpcaaW.PrintWords Go.Proofs.YtipdmnibjkdpcaaW.PrintLast
set_option linter.unusedVariables false
set_option linter.unusedSimpArgs false
noncomputable def insS (s t : S64) : Bool := (insideB s.f0 s.f1 s.f2 t.f0 t.f1 t.f2).choose
noncomputable def nestS (s t : S64) : Bool := insS s t || insS t s
theorem insS_i (s t : S64) : Ev (fun k => impl_Box_inside.f k s.f0 s.f1 s.f2 t.f0 t.f1 t.f2) (insS s t) := (insideB s.f0 s.f1 s.f2 t.f0 t.f1 t.f2).choose_spec.1
theorem insS_s (s t : S64) : Ev (fun k => spec_l02Inside.f k s.f0 s.f1 s.f2 t.f0 t.f1 t.f2) (insS s t) := (insideB s.f0 s.f1 s.f2 t.f0 t.f1 t.f2).choose_spec.2
theorem nestF (s t : S64) : Ev (fun k => impl_nested.f k s.f0 s.f1 s.f2 t.f0 t.f1 t.f2) (nestS s t) := by
  obtain ⟨K1, h1⟩ := EvG (insS_i s t)
  obtain ⟨K2, h2⟩ := EvG (insS_i t s)
  refine EvI (K1 + K2) fun k hk => ?_
  rw [impl_nested.f, h1 k (by omega), Option.bind_some, h2 k (by omega), Option.bind_some, nestS]
  cases insS s t <;> cases insS t s <;> rfl
theorem rdB (l : List S64) (x : Int) : rd_T64 l x = l.getD x.toNat z64 := rfl
end Go.Proofs.Ytipdmnibjkdpcaa.Pure

namespace Go.Proofs.Ytipdmnibjkdpcaa.Pure
open Go.RowKit Go.Proofs.Ytipdmnibjkdpcaa.P Go.Proofs.YtipdmnibjkdpcaaW.PrintWords Go.Proofs.YtipdmnibjkdpcaaW.PrintLast
set_option linter.unusedVariables false
set_option linter.unusedSimpArgs false
theorem rg1 (n i : Nat) (h : i < n) : (List.range n).drop i = i :: (List.range n).drop (i + 1) := by
  rw [List.drop_eq_getElem_cons (by simpa using h), List.getElem_range]
noncomputable def FP (l : List S64) (y : List Int) (m : Nat) (key : Int) (i : Nat) : Bool := ((List.range m).drop i).all fun j => !decide (y.getD j 0 = key) || nestS (l.getD j z64) (l.getD m z64)
theorem FP_end (l : List S64) (y : List Int) (m : Nat) (key : Int) : FP l y m key m = true := by
  rw [FP, List.drop_of_length_le (by simp)]; rfl
theorem FP_step (l : List S64) (y : List Int) (m : Nat) (key : Int) (i : Nat) (h : i < m) : FP l y m key i = ((!decide (y.getD i 0 = key) || nestS (l.getD i z64) (l.getD m z64)) && FP l y m key (i + 1)) := by
  rw [FP, rg1 m i h, List.all_cons]; rfl
theorem FP_congr {l : List S64} {y b : List Int} {m : Nat} (h : ∀ j, j < m → y.getD j 0 = b.getD j 0) (key : Int) : FP l y m key 0 = FP l b m key 0 := by
  rw [FP, FP, List.drop_zero]
  rw [Bool.eq_iff_iff, List.all_eq_true, List.all_eq_true]
  constructor
  · intro g j hj
    rw [← h j (List.mem_range.1 hj)]; exact g j hj
  · intro g j hj
    rw [h j (List.mem_range.1 hj)]; exact g j hj
theorem may_l0 (l : List S64) (hl : l.length ≤ 10) (b : List Int) (hb : b.length < l.length) (key : Int) : ∀ d i, b.length - i = d → i ≤ b.length → Ev (fun k => impl_mayPile_1.l0 k b key l b (b.length : Int) (i : Int)) (FP l b b.length key i) := by
  intro d
  induction d with
  | zero =>
    intro i hd hi
    obtain rfl : i = b.length := by omega
    rw [FP_end]
    exact Ev.step (f := fun _ => some true) (fun k => by rw [impl_mayPile_1.l0, if_neg (by omega)]) (Ev.now _)
  | succ d ih =>
    intro i hd hi
    rw [FP_step l b b.length key i (by omega)]
    by_cases c : b.getD i 0 = key
    · obtain ⟨K1, h1⟩ := EvG (nestF (l.getD i z64) (l.getD b.length z64))
      obtain ⟨K2, h2⟩ := EvG (ih (i + 1) (by omega) (by omega))
      refine EvI (K1 + K2 + 1) fun k hk => ?_
      obtain ⟨m, rfl⟩ : ∃ m, k = m + 1 := ⟨k - 1, by omega⟩
      rw [impl_mayPile_1.l0, if_pos (by omega), if_pos (by omega), if_pos (by omega), rdN, if_pos c, if_pos (by omega), if_pos (by omega), if_pos (by omega), rdB, rdB, Int.toNat_natCast, Int.toNat_natCast, h1 m (by omega), Option.bind_some, wN i (by omega), h2 m (by omega), decide_eq_true c]
      cases nestS (l.getD i z64) (l.getD b.length z64) <;> rfl
    · rw [decide_eq_false c, Bool.not_false, Bool.true_or, Bool.true_and]
      refine Ev.step (fun k => ?_) (ih (i + 1) (by omega) (by omega))
      rw [impl_mayPile_1.l0, if_pos (by omega), if_pos (by omega), if_pos (by omega), rdN, if_neg c, wN i (by omega)]
theorem mayF (l : List S64) (hl : l.length ≤ 10) (b : List Int) (hb : b.length < l.length) (key : Int) : Ev (fun k => impl_mayPile_1.f k b key l) (FP l b b.length key 0) :=
  may_l0 l hl b hb key _ 0 rfl (Nat.zero_le _)
theorem pil_l0 (l : List S64) (hl : l.length ≤ 10) (y : List Int) (m : Nat) (hy : y.length = m + 1) (hm : y.length ≤ l.length) : ∀ d i, m - i = d → i ≤ m → Ev (fun k => spec_l02Piled.l0 k l y (m : Int) (i : Int)) (FP l y m (y.getD m 0) i) := by
  intro d
  induction d with
  | zero =>
    intro i hd hi
    obtain rfl : i = m := by omega
    rw [FP_end]
    exact Ev.step (f := fun _ => some true) (fun k => by rw [spec_l02Piled.l0, if_neg (by omega)]) (Ev.now _)
  | succ d ih =>
    intro i hd hi
    rw [FP_step l y m (y.getD m 0) i (by omega)]
    by_cases c : y.getD i 0 = y.getD m 0
    · obtain ⟨K1, h1⟩ := EvG (insS_s (l.getD i z64) (l.getD m z64))
      obtain ⟨K3, h3⟩ := EvG (insS_s (l.getD m z64) (l.getD i z64))
      obtain ⟨K2, h2⟩ := EvG (ih (i + 1) (by omega) (by omega))
      refine EvI (K1 + K2 + K3 + 1) fun k hk => ?_
      obtain ⟨n, rfl⟩ : ∃ n, k = n + 1 := ⟨k - 1, by omega⟩
      rw [spec_l02Piled.l0, if_pos (by omega), if_pos (by omega), if_pos (by omega), if_pos (by omega), if_pos (by omega), rdN, rdN, if_pos c, if_pos (by omega), if_pos (by omega), rdB, rdB, Int.toNat_natCast, Int.toNat_natCast, h1 n (by omega), Option.bind_some, wN i (by omega), h2 n (by omega), h3 n (by omega), Option.bind_some, decide_eq_true c, nestS]
      cases insS (l.getD i z64) (l.getD m z64) <;> cases insS (l.getD m z64) (l.getD i z64) <;> rfl
    · rw [decide_eq_false c, Bool.not_false, Bool.true_or, Bool.true_and]
      refine Ev.step (fun k => ?_) (ih (i + 1) (by omega) (by omega))
      rw [spec_l02Piled.l0, if_pos (by omega), if_pos (by omega), if_pos (by omega), if_pos (by omega), if_pos (by omega), rdN, rdN, if_neg c, wN i (by omega)]
theorem pilF (l : List S64) (hl : l.length ≤ 10) (y : List Int) (m : Nat) (hy : y.length = m + 1) (hm : y.length ≤ l.length) : Ev (fun k => spec_l02Piled.f k l y) (FP l y m (y.getD m 0) 0) := by
  refine Ev.congr (fun k => ?_) (pil_l0 l hl y m hy hm _ 0 rfl (Nat.zero_le _))
  rw [spec_l02Piled.f, hy, w64 (by omega) (by omega), show (((m + 1 : Nat) : Int) - 1) = (m : Int) by omega]
  rfl
end Go.Proofs.Ytipdmnibjkdpcaa.Pure

namespace Go.Proofs.Ytipdmnibjkdpcaa.Pure
open Go.RowKit Go.Proofs.Ytipdmnibjkdpcaa.P Go.Proofs.YtipdmnibjkdpcaaW.PrintWords Go.Proofs.YtipdmnibjkdpcaaW.PrintLast
set_option linter.unusedVariables false
set_option linter.unusedSimpArgs false
def in09 (x : Int) : Bool := decide (0 ≤ x) && decide (x ≤ 9)
noncomputable def okC (l : List S64) (y : List Int) (i : Nat) : Bool := ((List.range y.length).drop i).all fun j => FP l y j (y.getD j 0) 0
theorem okC_end (l : List S64) (y : List Int) : okC l y y.length = true := by rw [okC, List.drop_of_length_le (by simp)]; rfl
theorem okC_step (l : List S64) (y : List Int) (i : Nat) (h : i < y.length) : okC l y i = (FP l y i (y.getD i 0) 0 && okC l y (i + 1)) := by rw [okC, rg1 _ i h, List.all_cons]; rfl
theorem drop1C (b : List Int) (j : Nat) (h : j < b.length) : b.drop j = b.getD j 0 :: b.drop (j + 1) := by rw [List.drop_eq_getElem_cons h, getD_eq b j h]
theorem takeD (y : List Int) (m j : Nat) (h : j < m) : (y.take m).getD j 0 = y.getD j 0 := by
  rw [List.getD_eq_getElem?_getD, List.getElem?_take_of_lt h, ← List.getD_eq_getElem?_getD]
theorem sC_l0 (l : List S64) (hl : l.length ≤ 10) (y : List Int) (hy : y.length = l.length) : ∀ d i, y.length - i = d → i ≤ y.length → Ev (fun k => spec_CheckPiles.l0 k l y (i : Int)) ((y.drop i).all in09 && okC l y i, 0) := by
  intro d
  induction d with
  | zero =>
    intro i hd hi
    obtain rfl : i = y.length := by omega
    rw [List.drop_length, okC_end]
    exact Ev.step (f := fun _ => some (true, 0)) (fun k => by rw [spec_CheckPiles.l0, if_neg (by omega)]) (Ev.now _)
  | succ d ih =>
    intro i hd hi
    rw [drop1C y i (by omega), List.all_cons, okC_step l y i (by omega)]
    cases c : in09 (y.getD i 0) with
    | false =>
      refine Ev.step (f := fun _ => some (false, 0)) (fun k => ?_) (Ev.now _)
      rw [spec_CheckPiles.l0, if_pos (by omega), if_pos (by omega), rdN, inF, show (decide (0 ≤ y.getD i 0) && decide (y.getD i 0 ≤ 9)) = false from c, Option.bind_some, if_neg (by decide)]
    | true =>
      have ht : (y.take (i + 1)).length = i + 1 := by rw [List.length_take]; omega
      obtain ⟨K1, h1⟩ := EvG (pilF l hl (y.take (i + 1)) i ht (by omega))
      rw [takeD y (i + 1) i (by omega), FP_congr (b := y) (fun j hj => takeD y (i + 1) j (by omega))] at h1
      obtain ⟨K2, h2⟩ := EvG (ih (i + 1) (by omega) (by omega))
      refine EvI (K1 + K2 + 1) fun k hk => ?_
      obtain ⟨n, rfl⟩ : ∃ n, k = n + 1 := ⟨k - 1, by omega⟩
      rw [spec_CheckPiles.l0, if_pos (by omega), if_pos (by omega), rdN, inF, show (decide (0 ≤ y.getD i 0) && decide (y.getD i 0 ≤ 9)) = true from c, Option.bind_some, if_pos rfl, wN i (by omega), if_pos (by omega), if_pos (by omega), Int.toNat_natCast, h1 n (by omega), Option.bind_some, h2 n (by omega), Bool.true_and]
      cases FP l y i (y.getD i 0) 0 <;> simp
theorem iC_l0 (l : List S64) (hl : l.length ≤ 10) (y : List Int) (hy : y.length = l.length) : ∀ d i, y.length - i = d → i ≤ y.length → Ev (fun k => impl_CheckPiles.l0 k l y y (y.length : Int) (i : Int)) (okC l y i, 0) := by
  intro d
  induction d with
  | zero =>
    intro i hd hi
    obtain rfl : i = y.length := by omega
    rw [okC_end]
    exact Ev.step (f := fun _ => some (true, 0)) (fun k => by rw [impl_CheckPiles.l0, if_neg (by omega)]) (Ev.now _)
  | succ d ih =>
    intro i hd hi
    rw [okC_step l y i (by omega)]
    have ht : (y.take i).length = i := by rw [List.length_take]; omega
    obtain ⟨K1, h1⟩ := EvG (mayF l hl (y.take i) (by omega) (y.getD i 0))
    rw [ht, FP_congr (b := y) (fun j hj => takeD y i j (by omega))] at h1
    obtain ⟨K2, h2⟩ := EvG (ih (i + 1) (by omega) (by omega))
    refine EvI (K1 + K2 + 1) fun k hk => ?_
    obtain ⟨n, rfl⟩ : ∃ n, k = n + 1 := ⟨k - 1, by omega⟩
    rw [impl_CheckPiles.l0, if_pos (by omega), if_pos (by omega), if_pos (by omega), if_pos (by omega), Int.toNat_natCast, rdN, h1 n (by omega), Option.bind_some, wN i (by omega), h2 n (by omega)]
    cases FP l y i (y.getD i 0) 0 <;> simp
theorem checkBoth (l : List S64) (hb : l.length ≤ 1048576) (hw : wfS l) (y : List Int) : ∃ r : Bool × Int, Ev (fun k => impl_CheckPiles.f k l y) r ∧ Ev (fun k => spec_CheckPiles.f k l y) r := by
  obtain ⟨K1, cI⟩ := EvG (codeI l hb hw)
  obtain ⟨K2, cS⟩ := EvG (codeS l hb hw)
  by_cases h : boxesOk l = true
  · have h' := h
    rw [boxesOk, Bool.and_eq_true] at h
    have hlen : l.length ≤ 10 := of_decide_eq_true h.1
    by_cases hy : y.length = l.length
    · obtain ⟨K3, h3⟩ := EvG (sC_l0 l hlen y hy _ 0 rfl (Nat.zero_le _))
      obtain ⟨K4, h4⟩ := EvG (iC_l0 l hlen y hy _ 0 rfl (Nat.zero_le _))
      rw [List.drop_zero] at h3
      refine ⟨(y.all in09 && okC l y 0, 0), EvI (K1 + K4 + 1) fun k hk => ?_, EvI (K2 + K3) fun k hk => ?_⟩
      · obtain ⟨n, rfl⟩ : ∃ n, k = n + 1 := ⟨k - 1, by omega⟩
        have h4' := h4 n (by omega)
        rw [show ((0 : Nat) : Int) = (0 : Int) from rfl] at h4'
        rw [impl_CheckPiles.f, cI (n + 1) (by omega), if_pos h', Option.bind_some, if_pos rfl, if_pos (by omega), impl_areWithin.f, Option.bind_some]
        show impl_CheckPiles.j0 (n + 1) l y (!(y.all in09)) = _
        rw [impl_CheckPiles.j0]
        cases y.all in09 with
        | true => rw [Bool.not_true, if_neg (by decide), h4', Bool.true_and]
        | false => rfl
      · rw [spec_CheckPiles.f, cS k (by omega), Option.bind_some, if_pos h', if_pos (by omega)]
        exact h3 k (by omega)
    · refine ⟨(false, 0), EvI (K1 + 1) fun k hk => ?_, EvI K2 fun k hk => ?_⟩
      · obtain ⟨n, rfl⟩ : ∃ n, k = n + 1 := ⟨k - 1, by omega⟩
        rw [impl_CheckPiles.f, cI (n + 1) (by omega), if_pos h', Option.bind_some, if_pos rfl, if_neg (by omega), impl_CheckPiles.j0, if_pos rfl]
      · rw [spec_CheckPiles.f, cS k hk, Option.bind_some, if_pos h', if_neg (by omega)]
  · exact ⟨(false, 1), EvI K1 fun k hk => by rw [impl_CheckPiles.f, cI k hk, if_neg h, Option.bind_some, if_neg (by omega)],
      EvI K2 fun k hk => by rw [spec_CheckPiles.f, cS k hk, Option.bind_some, if_neg h]⟩
end Go.Proofs.Ytipdmnibjkdpcaa.Pure

namespace Go.Proofs.Ytipdmnibjkdpcaa.Pure
open Go.RowKit Go.Proofs.Ytipdmnibjkdpcaa.P Go.Proofs.YtipdmnibjkdpcaaW.PrintWords Go.Proofs.YtipdmnibjkdpcaaW.PrintLast
set_option linter.unusedVariables false
theorem FnExactCheckPiles : laws_FnExactCheckPiles.Pure := by
  rintro l y ⟨hl, hw⟩ ⟨hy, _⟩
  have hs := szB l 1048576 (by omega) (by omega) hl
  by_cases h0 : (y.length : Int) > 1048576
  · exact ⟨0, by rw [laws_FnExactCheckPiles.f, if_pos h0]⟩
  by_cases hb : (l.length : Int) ≤ 1048576
  · rw [if_pos hb] at hs
    obtain ⟨r, r1, r2⟩ := checkBoth (l.map cvb) (by rw [List.length_map]; omega) (wf_cvb hw) y
    obtain ⟨K1, r1⟩ := EvG r1
    obtain ⟨K2, r2⟩ := EvG r2
    obtain ⟨K3, hT⟩ := EvG (toBS l (by omega))
    obtain ⟨K4, hU⟩ := EvG (toI y (by omega))
    obtain ⟨K5, hB⟩ := EvG (eqB (l.map cvb) (by rw [List.length_map]; omega))
    obtain ⟨K6, hE⟩ := EvG (eqI y (by omega))
    refine ⟨K1 + K2 + K3 + K4 + K5 + K6 + 1, ?_⟩
    rw [laws_FnExactCheckPiles.f, if_neg h0, hs, Option.bind_some, if_neg (by omega), hT _ (by omega), Option.bind_some, hU _ (by omega), Option.bind_some, r2 _ (by omega), Option.bind_some, Option.bind_some, Option.bind_some, r1 _ (by omega), Option.bind_some, bne_self_eq_false, if_neg (by decide), bne_self_eq_false,
      laws_FnExactCheckPiles.j0, if_neg (by decide), hT _ (by omega), Option.bind_some, hB _ (by omega), Option.bind_some, if_pos rfl, hU _ (by omega), Option.bind_some, hE _ (by omega), Option.bind_some, if_pos rfl]
  · rw [if_neg hb] at hs
    refine ⟨0, ?_⟩
    rw [laws_FnExactCheckPiles.f, if_neg h0, hs, Option.bind_some, if_pos (by omega)]
end Go.Proofs.Ytipdmnibjkdpcaa.Pure

namespace Go.Proofs.Ytipdmnibjkdpcaa.X
open Go.ChangeShapes Go.WideShapes Go.ChangeAt Go.RowKit Go.Proofs.YtipdmnibjkdpcaaW.PrintWords Go.Deep
set_option linter.unusedVariables false
def Opens {α : Type} (P : Program) (t : TypeId) (d : Kd α) (wf : α → Prop) : Prop :=
  ∀ (H : Type) (enc : TypeId × Value → H) (W : World) (held : Bool) (fuel : Nat) (cs : List Value) (x : DataW H × List MemPlace), DataW.trod enc P W 0 (fun _ => true) held fuel t cs = some x → ∃ a, d.K W a cs ∧ wf a
theorem Opens.int {P : Program} {t : TypeId} {k : IntKind} (ht : P.underlying t = some (.int k)) : Opens P t (Kd.int k) (fun n => (Lit.int k n).wf = true) := by
  intro H enc W held fuel cs x h
  obtain ⟨n, rfl, _, hw⟩ := DataW.trod_int ht h
  exact ⟨n, rfl, hw⟩
theorem Opens.slice {α : Type} [Inhabited α] {P : Program} {t e : TypeId} {d : Kd α} {wf : α → Prop} (ht : P.underlying t = some (.slice e)) (hc : P.cellsOf e = d.sz) (h : Opens P e d wf) :
    Opens P t (Kd.slice e d) (fun l => l.length ≤ 9223372036854775807 ∧ ∀ a ∈ l, wf a) := by
  intro H enc W held fuel cs x hx
  rcases open_slice ht hx with ⟨rfl, _⟩ | ⟨ad, len, cap, m, n, D, Pl, rfl, _, hl, hm, hmm, _, hel⟩
  · exact ⟨[], ⟨none, 0, rfl, Nat.le_refl _, ⟨rfl, by simp, fun h => absurd h (Nat.lt_irrefl 0)⟩⟩, by simp, fun a ha => by cases ha⟩
  · have hmc : m = cap := by simpa using hmm
    have each : ∀ i, i < len → ∃ a : α, wf a ∧ ∃ c, c.length = d.sz ∧ d.K W a c ∧ ∀ j u, c[j]? = some u → W.cell? (ad.add (i * d.sz + j)) = some u := by
      intro i hi
      obtain ⟨cs', h1, h2⟩ := hel i (by omega)
      obtain ⟨_, hlen, hcell⟩ := World.cells?_some h1
      obtain ⟨a, hK, hw⟩ := h H enc W held n cs' _ h2
      refine ⟨a, hw, cs', by rw [hlen, hc], hK, fun j u hu => ?_⟩
      have hj : j < P.cellsOf e := by have := (List.getElem?_eq_some_iff.1 hu).1; omega
      have h3 := hcell j hj
      rw [hu, hc] at h3
      rw [← h3]
      congr 1
      unfold Addr.add
      by_cases h4 : i * d.sz = 0 <;> by_cases h5 : j = 0 <;> simp [h4, h5, Nat.add_assoc]
    obtain ⟨f, hf⟩ := choose_lt each
    have hlen : ((List.range len).map f).length = len := by simp
    refine ⟨(List.range len).map f, ⟨some ad, cap, by rw [hlen], by rw [hlen]; exact hl, ⟨rfl, by rw [hlen]; unfold maxLen at hm; omega, fun _ => ⟨ad, rfl, fun j p hp => ?_⟩⟩⟩, by rw [hlen]; unfold maxLen at hm; omega, fun a ha => ?_⟩
    · have hj : j < len := by have := (List.getElem?_eq_some_iff.1 hp).1; omega
      have hp2 : f j = p := by simpa [hj] using hp
      rw [← hp2]
      exact (hf j hj).2
    · obtain ⟨i, hi, rfl⟩ := List.mem_map.1 ha
      exact (hf i (List.mem_range.1 hi)).1
theorem Opens.pair {α β : Type} {P : Program} {t : TypeId} {a : Kd α} {b : Kd β} {wa : α → Prop} {wb : β → Prop} {f0 f1 : Field} (hs : P.underlying t = some (.struct #[f0, f1])) (o0 : f0.offset = 0) (c0 : P.cellsOf f0.type = a.sz) (o1 : f1.offset = a.sz) (c1 : P.cellsOf f1.type = b.sz) (hc : P.cellsOf t = a.sz + b.sz)
    (ha : Opens P f0.type a wa) (hb : Opens P f1.type b wb) : Opens P t (Kd.pair a b) (fun x => wa x.1 ∧ wb x.2) := by
  intro H enc W held fuel cs x hx
  obtain ⟨xs, n, _, _, hl, hxl, hf⟩ := DataW.trod_struct hs hx
  have hxl : xs.length = 2 := hxl
  have g0 := hf 0 f0 rfl
  have g1 := hf 1 f1 rfl
  rw [List.getElem?_eq_getElem (by omega)] at g0 g1
  obtain ⟨x0, k0, w0⟩ := ha H enc W held n _ _ g0
  obtain ⟨x1, k1, w1⟩ := hb H enc W held n _ _ g1
  refine ⟨(x0, x1), ⟨_, _, ?_, k0, k1⟩, w0, w1⟩
  rw [o0, o1, c0, c1, List.drop_zero]
  rw [List.take_of_length_le (l := cs.drop a.sz) (by rw [List.length_drop]; omega), List.take_append_drop]
theorem Opens.triple {α β γ : Type} {P : Program} {t : TypeId} {a : Kd α} {b : Kd β} {c : Kd γ} {wa : α → Prop} {wb : β → Prop} {wc : γ → Prop} {f0 f1 f2 : Field} (hs : P.underlying t = some (.struct #[f0, f1, f2])) (o0 : f0.offset = 0) (c0 : P.cellsOf f0.type = a.sz) (o1 : f1.offset = a.sz) (c1 : P.cellsOf f1.type = b.sz) (o2 : f2.offset = a.sz + b.sz) (c2 : P.cellsOf f2.type = c.sz) (hc : P.cellsOf t = a.sz + b.sz + c.sz)
    (ha : Opens P f0.type a wa) (hb : Opens P f1.type b wb) (hcc : Opens P f2.type c wc) : Opens P t (Kd.pair a (Kd.pair b c)) (fun x => wa x.1 ∧ wb x.2.1 ∧ wc x.2.2) := by
  intro H enc W held fuel cs x hx
  obtain ⟨xs, n, _, _, hl, hxl, hf⟩ := DataW.trod_struct hs hx
  have hxl : xs.length = 3 := hxl
  have g0 := hf 0 f0 rfl
  have g1 := hf 1 f1 rfl
  have g2 := hf 2 f2 rfl
  rw [List.getElem?_eq_getElem (by omega)] at g0 g1 g2
  obtain ⟨x0, k0, w0⟩ := ha H enc W held n _ _ g0
  obtain ⟨x1, k1, w1⟩ := hb H enc W held n _ _ g1
  obtain ⟨x2, k2, w2⟩ := hcc H enc W held n _ _ g2
  refine ⟨(x0, x1, x2), ⟨_, _, ?_, k0, ⟨_, _, rfl, k1, k2⟩⟩, w0, w1, w2⟩
  rw [o0, o1, o2, c0, c1, c2, List.drop_zero]
  rw [List.take_of_length_le (l := cs.drop (a.sz + b.sz)) (by rw [List.length_drop]; omega), ← List.drop_drop, List.take_append_drop, List.take_append_drop]
theorem Opens.iso {α β : Type} {P : Program} {t : TypeId} {d : Kd α} {wf : α → Prop} (f : β → α) (g : α → β) (hg : ∀ a, f (g a) = a) (h : Opens P t d wf) : Opens P t (Kd.iso d f) (fun b => wf (f b)) := by
  intro H enc W held fuel cs x hx
  obtain ⟨a, hK, hw⟩ := h H enc W held fuel cs x hx
  refine ⟨g a, ?_, by show wf (f (g a)); rw [hg]; exact hw⟩
  show d.K W (f (g a)) cs
  rw [hg]; exact hK
theorem Opens.agg {α : Type} {P : Program} {t : TypeId} {d : Kd α} {wf : α → Prop} {fs : Array Field} (h : Opens P t d wf) (hs : P.underlying t = some (.struct fs)) {H : Type} {enc : TypeId × Value → H} {W : World} {r : Reach} {b0 : Nat} {v : Value} {dd : DataW H} {ps : List MemPlace}
    (hv : Value.okWide P W r b0 t v) (ht : DataW.Trod enc P W 0 (fun _ => true) true t v dd ps) : ∃ (a : α) (cs : List Value), v = .agg cs.toArray ∧ d.K W a cs ∧ wf a := by
  obtain ⟨cs, rfl, _⟩ := okWide_struct hs hv
  obtain ⟨fuel, hf⟩ := ht
  obtain ⟨a, hK, hw⟩ := h H enc W true fuel _ _ hf
  exact ⟨a, _, by simp [Value.cells], hK, hw⟩
theorem Opens.arg {α : Type} {P : Program} {t e : TypeId} {d : Kd α} {wf : List α → Prop} (h : Opens P t (Kd.slice e d) wf) (ht : P.underlying t = some (.slice e)) {H : Type} {enc : TypeId × Value → H} {W : World} {r : Reach} {b0 : Nat} {v : Value} {dd : DataW H} {ps : List MemPlace}
    (hv : Value.okWide P W r b0 t v) (hT : DataW.Trod enc P W 0 (fun _ => true) true t v dd ps) : ∃ (l : List α) (A : Option Addr) (c : Nat), v = .slice A l.length c ∧ l.length ≤ c ∧ d.C W A l.length l ∧ wf l := by
  obtain ⟨a, len, cap, rfl⟩ := okWide_slice ht hv
  obtain ⟨fuel, hf⟩ := hT
  obtain ⟨l, ⟨A, c, he, hl, hC⟩, hw⟩ := h H enc W true fuel _ _ hf
  have he2 : [Value.slice a len cap] = [Value.slice A l.length c] := by simpa [Value.cells] using he
  injection he2 with he2 _
  exact ⟨l, A, c, he2, hl, hC, hw⟩
end Go.Proofs.Ytipdmnibjkdpcaa.X
