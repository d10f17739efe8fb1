/- The Go functions that the law FnExactLargestApart comes to, as plain Lean functions, the proofs that calls of them return what those tell, and the plain lemmas on them; no condition but those that each theorem states. -/
import Derived.Test.YtipdmnibjkdpcaaMLargestApart2
import Derived.Test.YtipdmnibjkdpcaaMLargestApart3
import Derived.Test.YtipdmnibjkdpcaaMLargestApart5
import Derived.OpenShut
import Derived.Test.YtipdmnibjkdpcaaMLargestApart4
import Derived.Test.YtipdmnibjkdpcaaRows
import Derived.Test.YtipdmnibjkdpcaaMLargestApart1
import Derived.Deep.Slices
import Derived.WalkKit
import Derived.ProofKit
import Derived.ShutString
import Derived.ChangeOld
import Derived.Below
import Derived.SizedLaws
import Derived.ChangeArms
import Derived.Carry
namespace Go.Proofs.Ytipdmnibjkdpcaa.P
open Go.RowKit Go.Proofs.YtipdmnibjkdpcaaW.PrintWords Go.Proofs.YtipdmnibjkdpcaaW.PrintLast Go.Proofs.YtipdmnibjkdpcaaW.PrintMore
attribute [local go_sem] max2_int min2_int max_two min_two max_three min_three max_four min_four
set_option linter.unusedVariables false
set_option linter.unusedSimpArgs false
mutual
def laws_FnExactLargestApart.j0 : Nat → List (S66) → List Int → Int → List (S64) → List Int → Int → Bool → Option (Bool)
  | 0, _, _, _, _, _, _, _ => none
  | k + 1, x0, x4, x5, x6, x7, x8, x40 => if x40 = true then (some false) else ((laws_toBoxS.f k x0).bind fun t486 => ((laws_eqBoxS.f k x6 t486).bind fun t489 => (if t489 = true then ((laws_markBoxS.f k x6 1).bind fun bt490 => (if bt490.1 < 0 then (laws_FnExactLargestApart.j1 k x0 x4 x5 x7 true) else ((laws_eqInt64S.f k x7 x4).bind fun t492 => (if t492 = true then (laws_FnExactLargestApart.j1 k x0 x4 x5 x7 (x8 != x5)) else (laws_FnExactLargestApart.j1 k x0 x4 x5 x7 true))))) else (some false))))
def laws_FnExactLargestApart.j1 : Nat → List (S66) → List Int → Int → List Int → Bool → Option (Bool)
  | 0, _, _, _, _, _ => none
  | k + 1, x0, x4, x5, x7, x61 => if x61 = true then (some false) else ((laws_markInt64S.f k x7 1).bind fun bt493 => ((laws_heldInt64S.f k bt493.2 1).bind fun t495 => (if t495 < 0 then (some false) else (if t495 = bt493.1 then ((laws_toBoxS.f k x0).bind fun t496 => ((impl_LargestApart.f k t496).bind fun bt499 => ((laws_eqInt64S.f k bt499.1 x4).bind fun t503 => (if t503 = true then (laws_FnExactLargestApart.j2 k bt493.2 bt493.1 (bt499.2 != x5)) else (laws_FnExactLargestApart.j2 k bt493.2 bt493.1 true))))) else (some false)))))
def laws_FnExactLargestApart.j2 : Nat → List Int → Int → Bool → Option (Bool)
  | 0, _, _, _ => none
  | k + 1, x7, x10, x87 => if x87 = true then (some false) else ((laws_heldInt64S.f k x7 1).bind fun t504 => (if t504 < 0 then (some false) else (if t504 = x10 then (some true) else (some false))))
end
def laws_FnExactLargestApart.f (k : Nat) (l0 : List (S66)) : Option (Bool) := (laws_szBoxS.f l0 1048576).bind fun t470 => (if t470 < 0 then (some true) else ((laws_toBoxS.f k l0).bind fun t471 => ((spec_LargestApart.f k t471).bind fun bt474 => ((laws_toBoxS.f k l0).bind fun t478 => ((impl_LargestApart.f k t478).bind fun bt481 => ((laws_eqInt64S.f k bt481.1 bt474.1).bind fun t485 => (if t485 = true then (laws_FnExactLargestApart.j0 k l0 bt474.1 bt474.2 t478 bt481.1 bt481.2 (bt481.2 != bt474.2)) else (laws_FnExactLargestApart.j0 k l0 bt474.1 bt474.2 t478 bt481.1 bt481.2 true))))))))
set_option maxHeartbeats 8000000 in
set_option maxRecDepth 100000 in
theorem laws_FnExactLargestApart.calls (k : Nat) (A0 : Option Addr) (c0 : Nat) (l0 : List (S66)) (r : Bool) (w : World) (hr0 : Kd.C k66 w A0 l0.length l0) (hc0 : l0.length ≤ c0) (h : laws_FnExactLargestApart.f k l0 = some r) (hlaw_ : r = true := by rfl) :
    Calls Try.prog 6 #[.slice A0 l0.length c0] w fun e w' => e = .returned (.bool r) ∧ Below w.heap.size w w' := by
  have HLAW := Aside0.mk hlaw_
  clear hlaw_
  have HR0 := Aside0.mk hr0
  have HC0 := Aside0.mk hc0
  clear hr0 hc0
  have HB := Aside0.mk (Below.refl w.heap.size w)
  have H : ((laws_szBoxS.f l0 1048576).bind fun t470 => (if t470 < 0 then (some true) else ((laws_toBoxS.f k l0).bind fun t471 => ((spec_LargestApart.f k t471).bind fun bt474 => ((laws_toBoxS.f k l0).bind fun t478 => ((impl_LargestApart.f k t478).bind fun bt481 => ((laws_eqInt64S.f k bt481.1 bt474.1).bind fun t485 => (if t485 = true then (laws_FnExactLargestApart.j0 k l0 bt474.1 bt474.2 t478 bt481.1 bt481.2 (bt481.2 != bt474.2)) else (laws_FnExactLargestApart.j0 k l0 bt474.1 bt474.2 t478 bt481.1 bt481.2 true))))))))) = some r := h
  clear h
  replace H := Option.bind_eq_some_iff.mp H
  obtain ⟨t470, A20, H⟩ := H
  replace H : (if t470 < 0 then (some true) else ((laws_toBoxS.f k l0).bind fun t471 => ((spec_LargestApart.f k t471).bind fun bt474 => ((laws_toBoxS.f k l0).bind fun t478 => ((impl_LargestApart.f k t478).bind fun bt481 => ((laws_eqInt64S.f k bt481.1 bt474.1).bind fun t485 => (if t485 = true then (laws_FnExactLargestApart.j0 k l0 bt474.1 bt474.2 t478 bt481.1 bt481.2 (bt481.2 != bt474.2)) else (laws_FnExactLargestApart.j0 k l0 bt474.1 bt474.2 t478 bt481.1 bt481.2 true)))))))) = some r := H
  have A2 := Aside0.mk A20
  clear A20
  by_cases c3 : t470 < 0
  rotate_left
  · rw [if_neg c3] at H
    have c3b0 : decide (t470 < 0) = false := decide_eq_false c3
    clear c3
    replace H := Option.bind_eq_some_iff.mp H
    obtain ⟨t471, A40, H⟩ := H
    replace H : ((spec_LargestApart.f k t471).bind fun bt474 => ((laws_toBoxS.f k l0).bind fun t478 => ((impl_LargestApart.f k t478).bind fun bt481 => ((laws_eqInt64S.f k bt481.1 bt474.1).bind fun t485 => (if t485 = true then (laws_FnExactLargestApart.j0 k l0 bt474.1 bt474.2 t478 bt481.1 bt481.2 (bt481.2 != bt474.2)) else (laws_FnExactLargestApart.j0 k l0 bt474.1 bt474.2 t478 bt481.1 bt481.2 true)))))) = some r := H
    have A4 := Aside0.mk A40
    clear A40
    replace H := Option.bind_eq_some_iff.mp H
    obtain ⟨⟨t474, t477⟩, A50, H⟩ := H
    replace H : ((laws_toBoxS.f k l0).bind fun t478 => ((impl_LargestApart.f k t478).bind fun bt481 => ((laws_eqInt64S.f k bt481.1 t474).bind fun t485 => (if t485 = true then (laws_FnExactLargestApart.j0 k l0 t474 t477 t478 bt481.1 bt481.2 (bt481.2 != t477)) else (laws_FnExactLargestApart.j0 k l0 t474 t477 t478 bt481.1 bt481.2 true))))) = some r := H
    have A5 := Aside0.mk A50
    clear A50
    replace H := Option.bind_eq_some_iff.mp H
    obtain ⟨t478, A60, H⟩ := H
    replace H : ((impl_LargestApart.f k t478).bind fun bt481 => ((laws_eqInt64S.f k bt481.1 t474).bind fun t485 => (if t485 = true then (laws_FnExactLargestApart.j0 k l0 t474 t477 t478 bt481.1 bt481.2 (bt481.2 != t477)) else (laws_FnExactLargestApart.j0 k l0 t474 t477 t478 bt481.1 bt481.2 true)))) = some r := H
    have A6 := Aside0.mk A60
    clear A60
    replace H := Option.bind_eq_some_iff.mp H
    obtain ⟨⟨t481, t482⟩, A70, H⟩ := H
    replace H : ((laws_eqInt64S.f k t481 t474).bind fun t485 => (if t485 = true then (laws_FnExactLargestApart.j0 k l0 t474 t477 t478 t481 t482 (t482 != t477)) else (laws_FnExactLargestApart.j0 k l0 t474 t477 t478 t481 t482 true))) = some r := H
    have A7 := Aside0.mk A70
    clear A70
    have HC8 := Aside0.mk H
    clear H
    go_enter Try.func6, Try.ntmps6
    go_upto_region 8 with (first | ((with_reducible refine gate_callee (f := 17) rfl ?_); refine goesL_ (some 16) rfl rfl Try.func17 (by kernel_rfl) rfl #[.slice A0 l0.length c0, .int .i64 1048576] rfl (by (try simp only [List.map_toArray, List.map_cons, List.map_nil]); first | done | rfl | (simp only [List.length_drop, List.length_take]; rfl)) ?_; (with_reducible refine (laws_szBoxS.calls _ _ l0 1048576 t470 _ ?side1 ?side2 A2.out).mono ?_); (case side1 => repeat (first | exact HR0.out | (with_reducible refine Kd.C_alloc ?_ _) | (with_reducible refine Kd.C_drewN ?_ _) | (with_reducible refine Kd.C_drew ?_))); (case side2 => exact HC0.out); rintro e w' ⟨rfl, ⟨nd, rfl⟩⟩; refine ⟨_, rfl, ?_⟩) | ((with_reducible refine gate_callee (f := 19) rfl ?_); refine goesL_ (some 21) rfl rfl Try.func19 (by kernel_rfl) rfl #[.slice A0 l0.length c0] rfl (by (try simp only [List.map_toArray, List.map_cons, List.map_nil]); first | done | rfl | (simp only [List.length_drop, List.length_take]; rfl)) ?_; (with_reducible refine (laws_toBoxS.calls k _ _ l0 t471 _ ?side1 ?side2 A4.out).mono ?_); (case side1 => repeat (first | exact HR0.out | (with_reducible refine Kd.C_alloc ?_ _) | (with_reducible refine Kd.C_drewN ?_ _) | (with_reducible refine Kd.C_drew ?_))); (case side2 => exact HC0.out); rintro e w9 ⟨v472, rfl, ho0, hb⟩; refine ⟨_, rfl, ?_⟩; have n0_ := Aside0.mk (Kd.R_lower ho0 (below_size (by repeat (first | (with_reducible first | exact HB.out | apply below_alloc | apply pw_below_drewN | apply below_drew1) | exact HB.out)))); have n1_ := Aside0.mk (below_step (by repeat (first | (with_reducible first | exact HB.out | apply below_alloc | apply pw_below_drewN | apply below_drew1) | exact HB.out)) hb); clear HB; have HO473 := n0_; have HB := n1_; clear n0_ n1_; (try clear hb); (try clear hb2); (try clear hk); (try clear hi); (try clear ho0); obtain ⟨Ao10, co10, eo10⟩ := Kd.R_slice HO473.out; subst eo10) | ((with_reducible refine gate_callee (f := 23) rfl ?_); refine goesL_ (some 22) rfl rfl Try.func23 (by kernel_rfl) rfl #[.slice Ao10 t471.length co10] rfl (by (try simp only [List.map_toArray, List.map_cons, List.map_nil]); first | done | rfl | (simp only [List.length_drop, List.length_take]; rfl)) ?_; (with_reducible refine (spec_LargestApart.calls k _ _ t471 t474 t477 _ ?side1 ?side2 A5.out).mono ?_); (case side1 => repeat (first | exact (Kd.R_reads' HO473.out).2.2 | (with_reducible refine Kd.C_alloc ?_ _) | (with_reducible refine Kd.C_drewN ?_ _) | (with_reducible refine Kd.C_drew ?_))); (case side2 => exact (Kd.R_reads' HO473.out).2.1); rintro e w11 ⟨v475, rfl, ho0, hb⟩; refine ⟨_, rfl, ?_⟩; have n0_ := Aside0.mk (Kd.R_below (by (with_reducible repeat (first | apply Kd.R_alloc | apply Kd.R_drewN | apply Kd.R_drew)); exact HO473.out) hb); have n1_ := Aside0.mk (Kd.V_lower (Kd.V_mono (ok' := fun k_ => some k_ ≠ (.slice Ao10 t471.length co10 : Value).ownBlock) ho0 (fun k_ hk_ => (Kd.fresh' (Kd.R_lt (by (with_reducible repeat (first | apply Kd.R_alloc | apply Kd.R_drewN | apply Kd.R_drew)); exact HO473.out)) k_ hk_))) (below_size (by repeat (first | (with_reducible first | exact HB.out | apply below_alloc | apply pw_below_drewN | apply below_drew1) | exact HB.out)))); have n2_ := Aside0.mk (below_step (by repeat (first | (with_reducible first | exact HB.out | apply below_alloc | apply pw_below_drewN | apply below_drew1) | exact HB.out)) hb); clear HO473; clear HB; have HO473 := n0_; have HO476 := n1_; have HB := n2_; clear n0_ n1_ n2_; (try clear hb); (try clear hb2); (try clear hk); (try clear hi); (try clear ho0)) | ((with_reducible refine gate_callee (f := 19) rfl ?_); refine goesL_ (some 26) rfl rfl Try.func19 (by kernel_rfl) rfl #[.slice A0 l0.length c0] rfl (by (try simp only [List.map_toArray, List.map_cons, List.map_nil]); first | done | rfl | (simp only [List.length_drop, List.length_take]; rfl)) ?_; (with_reducible refine (laws_toBoxS.calls k _ _ l0 t478 _ ?side1 ?side2 A6.out).mono ?_); (case side1 => repeat (first | exact (Kd.C_below HR0.out HB.out) | (with_reducible refine Kd.C_alloc ?_ _) | (with_reducible refine Kd.C_drewN ?_ _) | (with_reducible refine Kd.C_drew ?_))); (case side2 => exact HC0.out); rintro e w12 ⟨v479, rfl, ho0, hb⟩; refine ⟨_, rfl, ?_⟩; have n0_ := Aside0.mk (Kd.R_elder' (by (with_reducible repeat (first | apply Kd.R_alloc | apply Kd.R_drewN | apply Kd.R_drew)); exact HO473.out) (Kd.R_base ho0) hb); have n1_ := Aside0.mk (Kd.V_elder' (by (with_reducible repeat (first | apply Kd.V_alloc | apply Kd.V_drewN | apply Kd.V_drew)); exact HO476.out) (Kd.R_base ho0) hb); have n2_ := Aside0.mk (Kd.R_lower (Kd.R_new' ho0 (Kd.R_lt (by (with_reducible repeat (first | apply Kd.R_alloc | apply Kd.R_drewN | apply Kd.R_drew)); exact HO473.out))) (below_size (by repeat (first | (with_reducible first | exact HB.out | apply below_alloc | apply pw_below_drewN | apply below_drew1) | exact HB.out)))); have n3_ := Aside0.mk (below_step (by repeat (first | (with_reducible first | exact HB.out | apply below_alloc | apply pw_below_drewN | apply below_drew1) | exact HB.out)) hb); clear HO473; clear HO476; clear HB; have HO473 := n0_; have HO476 := n1_; have HO480 := n2_; have HB := n3_; clear n0_ n1_ n2_ n3_; (try clear hb); (try clear hb2); (try clear hk); (try clear hi); (try clear ho0); obtain ⟨Ao13, co13, eo13⟩ := Kd.R_slice HO480.out; subst eo13) | ((with_reducible refine gate_callee (f := 24) rfl ?_); refine goesL_ (some 29) rfl rfl Try.func24 (by kernel_rfl) rfl #[.slice Ao13 t478.length co13] rfl (by (try simp only [List.map_toArray, List.map_cons, List.map_nil]); first | done | rfl | (simp only [List.length_drop, List.length_take]; rfl)) ?_; (with_reducible refine (impl_LargestApart.calls k _ _ t478 t481 t482 _ ?side1 ?side2 A7.out).mono ?_); (case side1 => repeat (first | exact (Kd.R_reads' HO480.out).2.2 | (with_reducible refine Kd.C_alloc ?_ _) | (with_reducible refine Kd.C_drewN ?_ _) | (with_reducible refine Kd.C_drew ?_))); (case side2 => exact (Kd.R_reads' HO480.out).2.1); rintro e w14 ⟨v483, rfl, ho0, hb⟩; refine ⟨_, rfl, ?_⟩; have n0_ := Aside0.mk (Kd.R_below (by (with_reducible repeat (first | apply Kd.R_alloc | apply Kd.R_drewN | apply Kd.R_drew)); exact HO473.out) hb); have n1_ := Aside0.mk (Kd.V_elder' (by (with_reducible repeat (first | apply Kd.V_alloc | apply Kd.V_drewN | apply Kd.V_drew)); exact HO476.out) (Kd.R_base ho0) hb); have n2_ := Aside0.mk (Kd.R_below (by (with_reducible repeat (first | apply Kd.R_alloc | apply Kd.R_drewN | apply Kd.R_drew)); exact HO480.out) hb); have n3_ := Aside0.mk (Kd.R_lower ho0 (below_size (by repeat (first | (with_reducible first | exact HB.out | apply below_alloc | apply pw_below_drewN | apply below_drew1) | exact HB.out)))); have n4_ := Aside0.mk (below_step (by repeat (first | (with_reducible first | exact HB.out | apply below_alloc | apply pw_below_drewN | apply below_drew1) | exact HB.out)) hb); clear HO473; clear HO476; clear HO480; clear HB; have HO473 := n0_; have HO476 := n1_; have HO480 := n2_; have HO484 := n3_; have HB := n4_; clear n0_ n1_ n2_ n3_ n4_; (try clear hb); (try clear hb2); (try clear hk); (try clear hi); (try clear ho0)))
    (try simp only [Act.put, List.setIfInBounds_toArray, List.set_cons_zero, List.set_cons_succ])
    go_cut [40] (fun v40 wc => ∃ (kq : Nat) (x40_7 : Bool), v40 = .bool x40_7 ∧ Aside0 (laws_FnExactLargestApart.j0 kq l0 t474 t477 t478 t481 t482 x40_7 = some r) ∧ Aside0 (kq ≤ k) ∧ Aside0 (Kd.V (Kd.int .i64) 2 wc w.heap.size (fun k_ => some k_ ≠ ((.slice Ao13 t478.length co13) : Value).ownBlock ∧ some k_ ≠ (v483 : Value).ownBlock) v475 t474) ∧ Aside0 (Kd.R k64 64 wc w.heap.size (fun _ => True) (.slice Ao13 t478.length co13) t478) ∧ Aside0 (Kd.R (Kd.int .i64) 2 wc w.heap.size (fun _ => True) v483 t481) ∧ Aside0 (Below w.heap.size w wc))
    case first =>
      have H := HC8.out
      clear HC8
      replace H := Option.bind_eq_some_iff.mp H
      obtain ⟨t485, A150, H⟩ := H
      replace H : (if t485 = true then (laws_FnExactLargestApart.j0 k l0 t474 t477 t478 t481 t482 (t482 != t477)) else (laws_FnExactLargestApart.j0 k l0 t474 t477 t478 t481 t482 true)) = some r := H
      have A15 := Aside0.mk A150
      clear A150
      by_cases c16 : t485 = true
      rotate_left
      · replace c16 := Bool.eq_false_iff.mpr c16
        subst c16
        have H1 : (laws_FnExactLargestApart.j0 k l0 t474 t477 t478 t481 t482 true) = some r := by rw [if_neg (show ¬ (false = true) by decide)] at H; exact H
        clear H
        have H := H1
        clear H1
        have H' := Aside0.mk H
        clear H
        obtain ⟨Ao19, co19, eo19⟩ := Kd.R_slice HO484.out
        subst eo19
        obtain ⟨Ao20, co20, eo20⟩ := Kd.V_slice HO476.out
        subst eo20
        go_wp2_with (first | ((with_reducible refine gate_callee (f := 12) rfl ?_); refine goesL_ (some 34) rfl rfl Try.func12 (by kernel_rfl) rfl #[.slice Ao19 t481.length co19, .slice Ao20 t474.length co20] rfl (by (try simp only [List.map_toArray, List.map_cons, List.map_nil]); first | done | rfl | (simp only [List.length_drop, List.length_take]; rfl)) ?_; (with_reducible refine (laws_eqInt64S.calls k _ _ t481 _ _ t474 false _ ?side1 ?side2 ?side3 ?side4 A15.out).mono ?_); (case side1 => repeat (first | exact (Kd.R_reads' HO484.out).2.2 | (with_reducible refine Kd.C_alloc ?_ _) | (with_reducible refine Kd.C_drewN ?_ _) | (with_reducible refine Kd.C_drew ?_))); (case side2 => exact (Kd.R_reads' HO484.out).2.1); (case side3 => repeat (first | exact (Kd.V_reads' HO476.out).2.2 | (with_reducible refine Kd.C_alloc ?_ _) | (with_reducible refine Kd.C_drewN ?_ _) | (with_reducible refine Kd.C_drew ?_))); (case side4 => exact (Kd.V_reads' HO476.out).2.1); rintro e w' ⟨rfl, ⟨nd, rfl⟩⟩; refine ⟨_, rfl, ?_⟩))
        go_meet
        case rel => exact ⟨_, (true), (by first | rfl | (simp; done) | (simp [*]; done)), H', ⟨by first | omega | exact Nat.le_refl _⟩, ⟨by (with_reducible repeat (first | apply Kd.V_alloc | apply Kd.V_drewN | apply Kd.V_drew)); exact Kd.V_mono HO476.out (fun _ hk => ⟨hk.1.2, hk.2⟩)⟩, ⟨by (with_reducible repeat (first | apply Kd.R_alloc | apply Kd.R_drewN | apply Kd.R_drew)); exact Kd.R_mono HO480.out (fun _ hk => trivial)⟩, ⟨by (with_reducible repeat (first | apply Kd.R_alloc | apply Kd.R_drewN | apply Kd.R_drew)); exact HO484.out⟩, ⟨by repeat (first | (with_reducible first | exact HB.out | apply below_alloc | apply pw_below_drewN | apply below_drew1) | exact HB.out)⟩⟩
      subst c16
      have H1 : (laws_FnExactLargestApart.j0 k l0 t474 t477 t478 t481 t482 (t482 != t477)) = some r := by rw [if_pos rfl] at H; exact H
      clear H
      have H := H1
      clear H1
      have H' := Aside0.mk H
      clear H
      obtain ⟨Ao17, co17, eo17⟩ := Kd.R_slice HO484.out
      subst eo17
      obtain ⟨Ao18, co18, eo18⟩ := Kd.V_slice HO476.out
      subst eo18
      go_wp2_with (first | ((with_reducible refine gate_callee (f := 12) rfl ?_); refine goesL_ (some 34) rfl rfl Try.func12 (by kernel_rfl) rfl #[.slice Ao17 t481.length co17, .slice Ao18 t474.length co18] rfl (by (try simp only [List.map_toArray, List.map_cons, List.map_nil]); first | done | rfl | (simp only [List.length_drop, List.length_take]; rfl)) ?_; (with_reducible refine (laws_eqInt64S.calls k _ _ t481 _ _ t474 true _ ?side1 ?side2 ?side3 ?side4 A15.out).mono ?_); (case side1 => repeat (first | exact (Kd.R_reads' HO484.out).2.2 | (with_reducible refine Kd.C_alloc ?_ _) | (with_reducible refine Kd.C_drewN ?_ _) | (with_reducible refine Kd.C_drew ?_))); (case side2 => exact (Kd.R_reads' HO484.out).2.1); (case side3 => repeat (first | exact (Kd.V_reads' HO476.out).2.2 | (with_reducible refine Kd.C_alloc ?_ _) | (with_reducible refine Kd.C_drewN ?_ _) | (with_reducible refine Kd.C_drew ?_))); (case side4 => exact (Kd.V_reads' HO476.out).2.1); rintro e w' ⟨rfl, ⟨nd, rfl⟩⟩; refine ⟨_, rfl, ?_⟩))
      go_meet
      case rel => exact ⟨_, ((t482 != t477)), (by first | rfl | (simp; done) | (simp [*]; done)), H', ⟨by first | omega | exact Nat.le_refl _⟩, ⟨by (with_reducible repeat (first | apply Kd.V_alloc | apply Kd.V_drewN | apply Kd.V_drew)); exact Kd.V_mono HO476.out (fun _ hk => ⟨hk.1.2, hk.2⟩)⟩, ⟨by (with_reducible repeat (first | apply Kd.R_alloc | apply Kd.R_drewN | apply Kd.R_drew)); exact Kd.R_mono HO480.out (fun _ hk => trivial)⟩, ⟨by (with_reducible repeat (first | apply Kd.R_alloc | apply Kd.R_drewN | apply Kd.R_drew)); exact HO484.out⟩, ⟨by repeat (first | (with_reducible first | exact HB.out | apply below_alloc | apply pw_below_drewN | apply below_drew1) | exact HB.out)⟩⟩
    case rest =>
      clear HC8
      try clear c1
      try clear c2
      try clear p2
      try clear c3
      try clear c3b0
      try clear c6
      try clear c12
      try clear c16
      try clear c17
      try clear c19
      obtain ⟨kq, x40_7, rfl, HA, HJ7, HO_4, HO_6, HO_7, HB⟩ := hcut
      cases kq with
      | zero => exact absurd HA.out (by simp [laws_FnExactLargestApart.j0])
      | succ kj7 =>
        have H := HA.out
        clear HA
        simp only [laws_FnExactLargestApart.j0] at H
        by_cases c21 : x40_7 = true
        rotate_left
        · replace c21 := Bool.eq_false_iff.mpr c21
          subst c21
          have H1 : ((laws_toBoxS.f kj7 l0).bind fun t486 => ((laws_eqBoxS.f kj7 t478 t486).bind fun t489 => (if t489 = true then ((laws_markBoxS.f kj7 t478 1).bind fun bt490 => (if bt490.1 < 0 then (laws_FnExactLargestApart.j1 kj7 l0 t474 t477 t481 true) else ((laws_eqInt64S.f kj7 t481 t474).bind fun t492 => (if t492 = true then (laws_FnExactLargestApart.j1 kj7 l0 t474 t477 t481 (t482 != t477)) else (laws_FnExactLargestApart.j1 kj7 l0 t474 t477 t481 true))))) else (some false)))) = some r := by rw [if_neg (show ¬ (false = true) by decide)] at H; exact H
          clear H
          have H := H1
          clear H1
          replace H := Option.bind_eq_some_iff.mp H
          obtain ⟨t486, A220, H⟩ := H
          replace H : ((laws_eqBoxS.f kj7 t478 t486).bind fun t489 => (if t489 = true then ((laws_markBoxS.f kj7 t478 1).bind fun bt490 => (if bt490.1 < 0 then (laws_FnExactLargestApart.j1 kj7 l0 t474 t477 t481 true) else ((laws_eqInt64S.f kj7 t481 t474).bind fun t492 => (if t492 = true then (laws_FnExactLargestApart.j1 kj7 l0 t474 t477 t481 (t482 != t477)) else (laws_FnExactLargestApart.j1 kj7 l0 t474 t477 t481 true))))) else (some false))) = some r := H
          have A22 := Aside0.mk A220
          clear A220
          replace H := Option.bind_eq_some_iff.mp H
          obtain ⟨t489, A230, H⟩ := H
          replace H : (if t489 = true then ((laws_markBoxS.f kj7 t478 1).bind fun bt490 => (if bt490.1 < 0 then (laws_FnExactLargestApart.j1 kj7 l0 t474 t477 t481 true) else ((laws_eqInt64S.f kj7 t481 t474).bind fun t492 => (if t492 = true then (laws_FnExactLargestApart.j1 kj7 l0 t474 t477 t481 (t482 != t477)) else (laws_FnExactLargestApart.j1 kj7 l0 t474 t477 t481 true))))) else (some false)) = some r := H
          have A23 := Aside0.mk A230
          clear A230
          by_cases c24 : t489 = true
          rotate_left
          · replace c24 := Bool.eq_false_iff.mpr c24
            subst c24
            have H1 : (some false) = some r := by rw [if_neg (show ¬ (false = true) by decide)] at H; exact H
            clear H
            have H := H1
            clear H1
            exact absurd ((Option.some.inj H).trans HLAW.out) (by decide)
          subst c24
          have H1 : ((laws_markBoxS.f kj7 t478 1).bind fun bt490 => (if bt490.1 < 0 then (laws_FnExactLargestApart.j1 kj7 l0 t474 t477 t481 true) else ((laws_eqInt64S.f kj7 t481 t474).bind fun t492 => (if t492 = true then (laws_FnExactLargestApart.j1 kj7 l0 t474 t477 t481 (t482 != t477)) else (laws_FnExactLargestApart.j1 kj7 l0 t474 t477 t481 true))))) = some r := by rw [if_pos rfl] at H; exact H
          clear H
          have H := H1
          clear H1
          replace H := Option.bind_eq_some_iff.mp H
          obtain ⟨⟨t490, t491⟩, A250, H⟩ := H
          replace H : (if t490 < 0 then (laws_FnExactLargestApart.j1 kj7 l0 t474 t477 t481 true) else ((laws_eqInt64S.f kj7 t481 t474).bind fun t492 => (if t492 = true then (laws_FnExactLargestApart.j1 kj7 l0 t474 t477 t481 (t482 != t477)) else (laws_FnExactLargestApart.j1 kj7 l0 t474 t477 t481 true)))) = some r := H
          have A25 := Aside0.mk A250
          clear A250
          have HC26 := Aside0.mk H
          clear H
          go_upto_region 14 with (first | ((with_reducible refine gate_callee (f := 19) rfl ?_); refine goesL_ (some 43) rfl rfl Try.func19 (by kernel_rfl) rfl #[.slice A0 l0.length c0] rfl (by (try simp only [List.map_toArray, List.map_cons, List.map_nil]); first | done | rfl | (simp only [List.length_drop, List.length_take]; rfl)) ?_; (with_reducible refine (laws_toBoxS.calls kj7 _ _ l0 t486 _ ?side1 ?side2 A22.out).mono ?_); (case side1 => repeat (first | exact (Kd.C_below HR0.out HB.out) | (with_reducible refine Kd.C_alloc ?_ _) | (with_reducible refine Kd.C_drewN ?_ _) | (with_reducible refine Kd.C_drew ?_))); (case side2 => exact HC0.out); rintro e w27 ⟨v487, rfl, ho0, hb⟩; refine ⟨_, rfl, ?_⟩; have n0_ := Aside0.mk (Kd.V_elder' (by (with_reducible repeat (first | apply Kd.V_alloc | apply Kd.V_drewN | apply Kd.V_drew)); exact HO_4.out) (Kd.R_base ho0) hb); have n1_ := Aside0.mk (Kd.R_elder' (by (with_reducible repeat (first | apply Kd.R_alloc | apply Kd.R_drewN | apply Kd.R_drew)); exact HO_6.out) (Kd.R_base ho0) hb); have n2_ := Aside0.mk (Kd.R_below (by (with_reducible repeat (first | apply Kd.R_alloc | apply Kd.R_drewN | apply Kd.R_drew)); exact HO_7.out) hb); have n3_ := Aside0.mk (Kd.R_lower (Kd.R_new' ho0 (Kd.R_lt (by (with_reducible repeat (first | apply Kd.R_alloc | apply Kd.R_drewN | apply Kd.R_drew)); exact HO_6.out))) (below_size (by repeat (first | (with_reducible first | exact HB.out | apply below_alloc | apply pw_below_drewN | apply below_drew1) | exact HB.out)))); have n4_ := Aside0.mk (below_step (by repeat (first | (with_reducible first | exact HB.out | apply below_alloc | apply pw_below_drewN | apply below_drew1) | exact HB.out)) hb); clear HO_4; clear HO_6; clear HO_7; clear HB; have HO_4 := n0_; have HO_6 := n1_; have HO_7 := n2_; have HO488 := n3_; have HB := n4_; clear n0_ n1_ n2_ n3_ n4_; (try clear hb); (try clear hb2); (try clear hk); (try clear hi); (try clear ho0); obtain ⟨Ao28, co28, eo28⟩ := Kd.R_slice HO488.out; subst eo28) | ((with_reducible refine gate_callee (f := 21) rfl ?_); refine goesL_ (some 44) rfl rfl Try.func21 (by kernel_rfl) rfl #[.slice Ao13 t478.length co13, .slice Ao28 t486.length co28] rfl (by (try simp only [List.map_toArray, List.map_cons, List.map_nil]); first | done | rfl | (simp only [List.length_drop, List.length_take]; rfl)) ?_; (with_reducible refine (laws_eqBoxS.calls kj7 _ _ t478 _ _ t486 true _ ?side1 ?side2 ?side3 ?side4 A23.out).mono ?_); (case side1 => repeat (first | exact (Kd.R_reads' HO_6.out).2.2 | (with_reducible refine Kd.C_alloc ?_ _) | (with_reducible refine Kd.C_drewN ?_ _) | (with_reducible refine Kd.C_drew ?_))); (case side2 => exact (Kd.R_reads' HO_6.out).2.1); (case side3 => repeat (first | exact (Kd.R_reads' HO488.out).2.2 | (with_reducible refine Kd.C_alloc ?_ _) | (with_reducible refine Kd.C_drewN ?_ _) | (with_reducible refine Kd.C_drew ?_))); (case side4 => exact (Kd.R_reads' HO488.out).2.1); rintro e w29 ⟨rfl, hb⟩; refine ⟨_, rfl, ?_⟩; have n0_ := Aside0.mk (Kd.V_below (by (with_reducible repeat (first | apply Kd.V_alloc | apply Kd.V_drewN | apply Kd.V_drew)); exact HO_4.out) hb); have n1_ := Aside0.mk (Kd.R_below (by (with_reducible repeat (first | apply Kd.R_alloc | apply Kd.R_drewN | apply Kd.R_drew)); exact HO_6.out) hb); have n2_ := Aside0.mk (Kd.R_below (by (with_reducible repeat (first | apply Kd.R_alloc | apply Kd.R_drewN | apply Kd.R_drew)); exact HO_7.out) hb); have n3_ := Aside0.mk (Kd.R_below (by (with_reducible repeat (first | apply Kd.R_alloc | apply Kd.R_drewN | apply Kd.R_drew)); exact HO488.out) hb); have n4_ := Aside0.mk (below_step (by repeat (first | (with_reducible first | exact HB.out | apply below_alloc | apply pw_below_drewN | apply below_drew1) | exact HB.out)) hb); clear HO_4; clear HO_6; clear HO_7; clear HO488; clear HB; have HO_4 := n0_; have HO_6 := n1_; have HO_7 := n2_; have HO488 := n3_; have HB := n4_; clear n0_ n1_ n2_ n3_ n4_; (try clear hb); (try clear hb2); (try clear hk); (try clear hi)) | ((with_reducible refine gate_callee (f := 22) rfl ?_); refine goesL_ (some 48) rfl rfl Try.func22 (by kernel_rfl) rfl #[.slice Ao13 t478.length co13, .int .i64 1] rfl (by (try simp only [List.map_toArray, List.map_cons, List.map_nil]); first | done | rfl | (simp only [List.length_drop, List.length_take]; rfl)) ?_; (with_reducible refine (laws_markBoxS.calls kj7 (fun k_ => some k_ = (.slice Ao13 t478.length co13 : Value).ownBlock) (.slice Ao13 t478.length co13) t478 1 t490 t491 w _ ?side1 ?side2 A25.out).mono ?_); (case side1 => repeat (first | (with_reducible first | exact HB.out | apply below_alloc | apply pw_below_drewN | apply below_drew1) | exact HB.out)); (case side2 => exact Kd.R_tight rfl HO_6.out); rintro e w30 ⟨rfl, hy0, hb, hkp⟩; refine ⟨_, rfl, ?_⟩; have n0_ := Aside0.mk (Kd.V_mono (ok' := fun k_ => some k_ ≠ (.slice Ao13 t478.length co13 : Value).ownBlock ∧ some k_ ≠ (v483 : Value).ownBlock ∧ some k_ ≠ (.slice Ao28 t486.length co28 : Value).ownBlock) (Kd.V_keptB (HO_4.out) hkp (fun k_ hk_ hs_ => (hk_.1.1) hs_)) (fun k_ hk_ => ⟨hk_.1.1.1, hk_.1.1.2, hk_.1.2⟩)); have n1_ := Aside0.mk (Kd.R_reok rfl hy0 (fun k_ e_ => HO_6.out.1 k_ e_)); have n2_ := Aside0.mk (Kd.R_mono (ok' := fun k_ => True) (Kd.R_keptB ((Kd.R_apart' HO_7.out (Kd.R_typed HO_6.out) (by decide))) hkp (fun k_ hk_ hs_ => (hk_.2) hs_)) (fun k_ hk_ => trivial)); have n3_ := Aside0.mk (Kd.R_mono (ok' := fun k_ => some k_ ≠ (.slice Ao13 t478.length co13 : Value).ownBlock) (Kd.R_keptB (HO488.out) hkp (fun k_ hk_ hs_ => (hk_.2) hs_)) (fun k_ hk_ => hk_.1.2)); have n4_ := Aside0.mk (hb); clear HO_4; clear HO_6; clear HO_7; clear HO488; clear HB; have HO_4 := n0_; have HO_6 := n1_; have HO_7 := n2_; have HO488 := n3_; have HB := n4_; clear n0_ n1_ n2_ n3_ n4_; (try clear hb); (try clear hkp); (try clear hy0)))
          (try simp only [Act.put, List.setIfInBounds_toArray, List.set_cons_zero, List.set_cons_succ])
          go_cut [61] (fun v61 wc => ∃ (kq : Nat) (x61_25 : Bool), v61 = .bool x61_25 ∧ Aside0 (laws_FnExactLargestApart.j1 kq l0 t474 t477 t481 x61_25 = some r) ∧ Aside0 (kq ≤ kj7) ∧ Aside0 (Kd.V (Kd.int .i64) 2 wc w.heap.size (fun k_ => some k_ ≠ (v483 : Value).ownBlock) v475 t474) ∧ Aside0 (Kd.R (Kd.int .i64) 2 wc w.heap.size (fun _ => True) v483 t481) ∧ Aside0 (Below w.heap.size w wc))
          case first =>
            have H := HC26.out
            clear HC26
            by_cases c31 : t490 < 0
            rotate_left
            · rw [if_neg c31] at H
              have c31b0 : decide (t490 < 0) = false := decide_eq_false c31
              clear c31
              (first | rw [c31b0] | (simp only [i64_w, i32_w]; rw [c31b0]) | skip)
              replace H := Option.bind_eq_some_iff.mp H
              obtain ⟨t492, A320, H⟩ := H
              replace H : (if t492 = true then (laws_FnExactLargestApart.j1 kj7 l0 t474 t477 t481 (t482 != t477)) else (laws_FnExactLargestApart.j1 kj7 l0 t474 t477 t481 true)) = some r := H
              have A32 := Aside0.mk A320
              clear A320
              by_cases c33 : t492 = true
              rotate_left
              · replace c33 := Bool.eq_false_iff.mpr c33
                subst c33
                have H1 : (laws_FnExactLargestApart.j1 kj7 l0 t474 t477 t481 true) = some r := by rw [if_neg (show ¬ (false = true) by decide)] at H; exact H
                clear H
                have H := H1
                clear H1
                have H' := Aside0.mk H
                clear H
                obtain ⟨Ao36, co36, eo36⟩ := Kd.R_slice HO_7.out
                subst eo36
                obtain ⟨Ao37, co37, eo37⟩ := Kd.V_slice HO_4.out
                subst eo37
                go_wp2_with (first | (go_at_call 12; (with_reducible refine (laws_eqInt64S.calls kj7 _ _ t481 _ _ t474 false _ ?side1 ?side2 ?side3 ?side4 A32.out).mono ?_); (case side1 => repeat (first | exact (Kd.R_reads' HO_7.out).2.2 | (with_reducible refine Kd.C_alloc ?_ _) | (with_reducible refine Kd.C_drewN ?_ _) | (with_reducible refine Kd.C_drew ?_))); (case side2 => exact (Kd.R_reads' HO_7.out).2.1); (case side3 => repeat (first | exact (Kd.V_reads' HO_4.out).2.2 | (with_reducible refine Kd.C_alloc ?_ _) | (with_reducible refine Kd.C_drewN ?_ _) | (with_reducible refine Kd.C_drew ?_))); (case side4 => exact (Kd.V_reads' HO_4.out).2.1); rintro e w' ⟨rfl, ⟨nd, rfl⟩⟩))
                go_meet
                case rel => exact ⟨_, (true), (by first | rfl | (simp; done) | (simp [*]; done)), H', ⟨by have := HJ7.out; first | omega | exact Nat.le_refl _⟩, ⟨by (with_reducible repeat (first | apply Kd.V_alloc | apply Kd.V_drewN | apply Kd.V_drew)); exact Kd.V_mono HO_4.out (fun _ hk => hk.2.1)⟩, ⟨by (with_reducible repeat (first | apply Kd.R_alloc | apply Kd.R_drewN | apply Kd.R_drew)); exact HO_7.out⟩, ⟨by repeat (first | (with_reducible first | exact HB.out | apply below_alloc | apply pw_below_drewN | apply below_drew1) | exact HB.out)⟩⟩
              subst c33
              have H1 : (laws_FnExactLargestApart.j1 kj7 l0 t474 t477 t481 (t482 != t477)) = some r := by rw [if_pos rfl] at H; exact H
              clear H
              have H := H1
              clear H1
              have H' := Aside0.mk H
              clear H
              obtain ⟨Ao34, co34, eo34⟩ := Kd.R_slice HO_7.out
              subst eo34
              obtain ⟨Ao35, co35, eo35⟩ := Kd.V_slice HO_4.out
              subst eo35
              go_wp2_with (first | (go_at_call 12; (with_reducible refine (laws_eqInt64S.calls kj7 _ _ t481 _ _ t474 true _ ?side1 ?side2 ?side3 ?side4 A32.out).mono ?_); (case side1 => repeat (first | exact (Kd.R_reads' HO_7.out).2.2 | (with_reducible refine Kd.C_alloc ?_ _) | (with_reducible refine Kd.C_drewN ?_ _) | (with_reducible refine Kd.C_drew ?_))); (case side2 => exact (Kd.R_reads' HO_7.out).2.1); (case side3 => repeat (first | exact (Kd.V_reads' HO_4.out).2.2 | (with_reducible refine Kd.C_alloc ?_ _) | (with_reducible refine Kd.C_drewN ?_ _) | (with_reducible refine Kd.C_drew ?_))); (case side4 => exact (Kd.V_reads' HO_4.out).2.1); rintro e w' ⟨rfl, ⟨nd, rfl⟩⟩))
              go_meet
              case rel => exact ⟨_, ((t482 != t477)), (by first | rfl | (simp; done) | (simp [*]; done)), H', ⟨by have := HJ7.out; first | omega | exact Nat.le_refl _⟩, ⟨by (with_reducible repeat (first | apply Kd.V_alloc | apply Kd.V_drewN | apply Kd.V_drew)); exact Kd.V_mono HO_4.out (fun _ hk => hk.2.1)⟩, ⟨by (with_reducible repeat (first | apply Kd.R_alloc | apply Kd.R_drewN | apply Kd.R_drew)); exact HO_7.out⟩, ⟨by repeat (first | (with_reducible first | exact HB.out | apply below_alloc | apply pw_below_drewN | apply below_drew1) | exact HB.out)⟩⟩
            rw [if_pos c31] at H
            have c31b0 : decide (t490 < 0) = true := decide_eq_true c31
            clear c31
            (first | rw [c31b0] | (simp only [i64_w, i32_w]; rw [c31b0]) | skip)
            have H' := Aside0.mk H
            clear H
            go_wp2
            go_meet
            case rel => exact ⟨_, (true), (by first | rfl | (simp; done) | (simp [*]; done)), H', ⟨by have := HJ7.out; first | omega | exact Nat.le_refl _⟩, ⟨by (with_reducible repeat (first | apply Kd.V_alloc | apply Kd.V_drewN | apply Kd.V_drew)); exact Kd.V_mono HO_4.out (fun _ hk => hk.2.1)⟩, ⟨by (with_reducible repeat (first | apply Kd.R_alloc | apply Kd.R_drewN | apply Kd.R_drew)); exact HO_7.out⟩, ⟨by repeat (first | (with_reducible first | exact HB.out | apply below_alloc | apply pw_below_drewN | apply below_drew1) | exact HB.out)⟩⟩
          case rest =>
            clear HC26
            try clear c1
            try clear c2
            try clear p2
            try clear c3
            try clear c3b0
            try clear c6
            try clear c12
            try clear c16
            try clear c17
            try clear c19
            try clear c21
            try clear c22
            try clear c23
            try clear c24
            try clear c31
            try clear c31b0
            try clear c33
            try clear p2
            obtain ⟨kq, x61_25, rfl, HA, HJ25, HO_4, HO_7, HB⟩ := hcut
            cases kq with
            | zero => exact absurd HA.out (by simp [laws_FnExactLargestApart.j1])
            | succ kj25 =>
              have H := HA.out
              clear HA
              simp only [laws_FnExactLargestApart.j1] at H
              by_cases c38 : x61_25 = true
              rotate_left
              · replace c38 := Bool.eq_false_iff.mpr c38
                subst c38
                have H1 : ((laws_markInt64S.f kj25 t481 1).bind fun bt493 => ((laws_heldInt64S.f kj25 bt493.2 1).bind fun t495 => (if t495 < 0 then (some false) else (if t495 = bt493.1 then ((laws_toBoxS.f kj25 l0).bind fun t496 => ((impl_LargestApart.f kj25 t496).bind fun bt499 => ((laws_eqInt64S.f kj25 bt499.1 t474).bind fun t503 => (if t503 = true then (laws_FnExactLargestApart.j2 kj25 bt493.2 bt493.1 (bt499.2 != t477)) else (laws_FnExactLargestApart.j2 kj25 bt493.2 bt493.1 true))))) else (some false))))) = some r := by rw [if_neg (show ¬ (false = true) by decide)] at H; exact H
                clear H
                have H := H1
                clear H1
                replace H := Option.bind_eq_some_iff.mp H
                obtain ⟨⟨t493, t494⟩, A390, H⟩ := H
                replace H : ((laws_heldInt64S.f kj25 t494 1).bind fun t495 => (if t495 < 0 then (some false) else (if t495 = t493 then ((laws_toBoxS.f kj25 l0).bind fun t496 => ((impl_LargestApart.f kj25 t496).bind fun bt499 => ((laws_eqInt64S.f kj25 bt499.1 t474).bind fun t503 => (if t503 = true then (laws_FnExactLargestApart.j2 kj25 t494 t493 (bt499.2 != t477)) else (laws_FnExactLargestApart.j2 kj25 t494 t493 true))))) else (some false)))) = some r := H
                have A39 := Aside0.mk A390
                clear A390
                replace H := Option.bind_eq_some_iff.mp H
                obtain ⟨t495, A400, H⟩ := H
                replace H : (if t495 < 0 then (some false) else (if t495 = t493 then ((laws_toBoxS.f kj25 l0).bind fun t496 => ((impl_LargestApart.f kj25 t496).bind fun bt499 => ((laws_eqInt64S.f kj25 bt499.1 t474).bind fun t503 => (if t503 = true then (laws_FnExactLargestApart.j2 kj25 t494 t493 (bt499.2 != t477)) else (laws_FnExactLargestApart.j2 kj25 t494 t493 true))))) else (some false))) = some r := H
                have A40 := Aside0.mk A400
                clear A400
                by_cases c41 : t495 < 0
                rotate_left
                · rw [if_neg c41] at H
                  have c41b0 : decide (t495 < 0) = false := decide_eq_false c41
                  clear c41
                  by_cases c42 : t495 = t493
                  rotate_left
                  · rw [if_neg c42] at H
                    have c42b0 : (t495 == t493) = false := beq_eq_false_iff_ne.mpr c42
                    have c42b1 : (t495 != t493) = true := bne_iff_ne.mpr c42
                    exact absurd ((Option.some.inj H).trans HLAW.out) (by decide)
                  rw [if_pos c42] at H
                  have c42b0 : (t495 == t493) = true := beq_iff_eq.mpr c42
                  have c42b1 : (t495 != t493) = false := bne_eq_false_iff_eq.mpr c42
                  clear c42
                  replace H := Option.bind_eq_some_iff.mp H
                  obtain ⟨t496, A430, H⟩ := H
                  replace H : ((impl_LargestApart.f kj25 t496).bind fun bt499 => ((laws_eqInt64S.f kj25 bt499.1 t474).bind fun t503 => (if t503 = true then (laws_FnExactLargestApart.j2 kj25 t494 t493 (bt499.2 != t477)) else (laws_FnExactLargestApart.j2 kj25 t494 t493 true)))) = some r := H
                  have A43 := Aside0.mk A430
                  clear A430
                  replace H := Option.bind_eq_some_iff.mp H
                  obtain ⟨⟨t499, t500⟩, A440, H⟩ := H
                  replace H : ((laws_eqInt64S.f kj25 t499 t474).bind fun t503 => (if t503 = true then (laws_FnExactLargestApart.j2 kj25 t494 t493 (t500 != t477)) else (laws_FnExactLargestApart.j2 kj25 t494 t493 true))) = some r := H
                  have A44 := Aside0.mk A440
                  clear A440
                  have HC45 := Aside0.mk H
                  clear H
                  obtain ⟨Ao46, co46, eo46⟩ := Kd.R_slice HO_7.out
                  subst eo46
                  go_upto_region 25 with (first | ((with_reducible refine gate_callee (f := 13) rfl ?_); refine goesL_ (some 64) rfl rfl Try.func13 (by kernel_rfl) rfl #[.slice Ao46 t481.length co46, .int .i64 1] rfl (by (try simp only [List.map_toArray, List.map_cons, List.map_nil]); first | done | rfl | (simp only [List.length_drop, List.length_take]; rfl)) ?_; (with_reducible refine (laws_markInt64S.calls kj25 (fun k_ => some k_ = (.slice Ao46 t481.length co46 : Value).ownBlock) (.slice Ao46 t481.length co46) t481 1 t493 t494 w _ ?side1 ?side2 A39.out).mono ?_); (case side1 => repeat (first | (with_reducible first | exact HB.out | apply below_alloc | apply pw_below_drewN | apply below_drew1) | exact HB.out)); (case side2 => exact Kd.R_tight rfl HO_7.out); rintro e w47 ⟨rfl, hy0, hb, hkp⟩; refine ⟨_, rfl, ?_⟩; have n0_ := Aside0.mk (Kd.V_mono (ok' := fun k_ => some k_ ≠ (.slice Ao46 t481.length co46 : Value).ownBlock) (Kd.V_keptB (HO_4.out) hkp (fun k_ hk_ hs_ => (hk_) hs_)) (fun k_ hk_ => hk_.1)); have n1_ := Aside0.mk (Kd.R_reok rfl hy0 (fun k_ e_ => HO_7.out.1 k_ e_)); have n2_ := Aside0.mk (hb); clear HO_4; clear HO_7; clear HB; have HO_4 := n0_; have HO_7 := n1_; have HB := n2_; clear n0_ n1_ n2_; (try clear hb); (try clear hkp); (try clear hy0)) | ((with_reducible refine gate_callee (f := 14) rfl ?_); refine goesL_ (some 67) rfl rfl Try.func14 (by kernel_rfl) rfl #[.slice Ao46 t494.length co46, .int .i64 1] rfl (by (try simp only [List.map_toArray, List.map_cons, List.map_nil]); first | done | (rw [show t494.length = t481.length from (Kd.R_reads' HO_7.out).1.symm] <;> rfl) | rfl | (simp only [List.length_drop, List.length_take]; rfl)) ?_; (with_reducible refine (laws_heldInt64S.calls kj25 _ _ t494 1 t495 _ ?side1 ?side2 A40.out).mono ?_); (case side1 => repeat (first | exact (Kd.R_reads' HO_7.out).2.2 | (with_reducible refine Kd.C_alloc ?_ _) | (with_reducible refine Kd.C_drewN ?_ _) | (with_reducible refine Kd.C_drew ?_))); (case side2 => rw [show t494.length = t481.length from (Kd.R_reads' HO_7.out).1.symm]; exact (Kd.R_reads' HO_7.out).2.1); rintro e w' ⟨rfl, ⟨nd, rfl⟩⟩; refine ⟨_, rfl, ?_⟩) | ((with_reducible refine gate_callee (f := 19) rfl ?_); refine goesL_ (some 75) rfl rfl Try.func19 (by kernel_rfl) rfl #[.slice A0 l0.length c0] rfl (by (try simp only [List.map_toArray, List.map_cons, List.map_nil]); first | done | rfl | (simp only [List.length_drop, List.length_take]; rfl)) ?_; (with_reducible refine (laws_toBoxS.calls kj25 _ _ l0 t496 _ ?side1 ?side2 A43.out).mono ?_); (case side1 => repeat (first | exact (Kd.C_below HR0.out (by repeat (first | (with_reducible first | exact HB.out | apply below_alloc | apply pw_below_drewN | apply below_drew1) | exact HB.out))) | (with_reducible refine Kd.C_alloc ?_ _) | (with_reducible refine Kd.C_drewN ?_ _) | (with_reducible refine Kd.C_drew ?_))); (case side2 => exact HC0.out); rintro e w48 ⟨v497, rfl, ho0, hb⟩; refine ⟨_, rfl, ?_⟩; have n0_ := Aside0.mk (Kd.V_elder' (by (with_reducible repeat (first | apply Kd.V_alloc | apply Kd.V_drewN | apply Kd.V_drew)); exact HO_4.out) (Kd.R_base ho0) hb); have n1_ := Aside0.mk (Kd.R_below (by (with_reducible repeat (first | apply Kd.R_alloc | apply Kd.R_drewN | apply Kd.R_drew)); exact HO_7.out) hb); have n2_ := Aside0.mk (Kd.R_lower ho0 (below_size (by repeat (first | (with_reducible first | exact HB.out | apply below_alloc | apply pw_below_drewN | apply below_drew1) | exact HB.out)))); have n3_ := Aside0.mk (below_step (by repeat (first | (with_reducible first | exact HB.out | apply below_alloc | apply pw_below_drewN | apply below_drew1) | exact HB.out)) hb); clear HO_4; clear HO_7; clear HB; have HO_4 := n0_; have HO_7 := n1_; have HO498 := n2_; have HB := n3_; clear n0_ n1_ n2_ n3_; (try clear hb); (try clear hb2); (try clear hk); (try clear hi); (try clear ho0); obtain ⟨Ao49, co49, eo49⟩ := Kd.R_slice HO498.out; subst eo49) | ((with_reducible refine gate_callee (f := 24) rfl ?_); refine goesL_ (some 76) rfl rfl Try.func24 (by kernel_rfl) rfl #[.slice Ao49 t496.length co49] rfl (by (try simp only [List.map_toArray, List.map_cons, List.map_nil]); first | done | rfl | (simp only [List.length_drop, List.length_take]; rfl)) ?_; (with_reducible refine (impl_LargestApart.calls kj25 _ _ t496 t499 t500 _ ?side1 ?side2 A44.out).mono ?_); (case side1 => repeat (first | exact (Kd.R_reads' HO498.out).2.2 | (with_reducible refine Kd.C_alloc ?_ _) | (with_reducible refine Kd.C_drewN ?_ _) | (with_reducible refine Kd.C_drew ?_))); (case side2 => exact (Kd.R_reads' HO498.out).2.1); rintro e w50 ⟨v501, rfl, ho0, hb⟩; refine ⟨_, rfl, ?_⟩; have n0_ := Aside0.mk (Kd.V_elder' (by (with_reducible repeat (first | apply Kd.V_alloc | apply Kd.V_drewN | apply Kd.V_drew)); exact HO_4.out) (Kd.R_base ho0) hb); have n1_ := Aside0.mk (Kd.R_elder' (by (with_reducible repeat (first | apply Kd.R_alloc | apply Kd.R_drewN | apply Kd.R_drew)); exact HO_7.out) (Kd.R_base ho0) hb); have n2_ := Aside0.mk (Kd.R_below (by (with_reducible repeat (first | apply Kd.R_alloc | apply Kd.R_drewN | apply Kd.R_drew)); exact HO498.out) hb); have n3_ := Aside0.mk (Kd.R_lower (Kd.R_new' ho0 (Kd.R_lt (by (with_reducible repeat (first | apply Kd.R_alloc | apply Kd.R_drewN | apply Kd.R_drew)); exact HO_7.out))) (below_size (by repeat (first | (with_reducible first | exact HB.out | apply below_alloc | apply pw_below_drewN | apply below_drew1) | exact HB.out)))); have n4_ := Aside0.mk (below_step (by repeat (first | (with_reducible first | exact HB.out | apply below_alloc | apply pw_below_drewN | apply below_drew1) | exact HB.out)) hb); clear HO_4; clear HO_7; clear HO498; clear HB; have HO_4 := n0_; have HO_7 := n1_; have HO498 := n2_; have HO502 := n3_; have HB := n4_; clear n0_ n1_ n2_ n3_ n4_; (try clear hb); (try clear hb2); (try clear hk); (try clear hi); (try clear ho0)))
                  (try simp only [Act.put, List.setIfInBounds_toArray, List.set_cons_zero, List.set_cons_succ])
                  go_cut [87] (fun v87 wc => ∃ (kq : Nat) (x87_44 : Bool), v87 = .bool x87_44 ∧ Aside0 (laws_FnExactLargestApart.j2 kq t494 t493 x87_44 = some r) ∧ Aside0 (kq ≤ kj25) ∧ Aside0 (Kd.R (Kd.int .i64) 2 wc w.heap.size (fun _ => True) (.slice Ao46 t481.length co46) t494) ∧ Aside0 (Below w.heap.size w wc))
                  case first =>
                    have H := HC45.out
                    clear HC45
                    replace H := Option.bind_eq_some_iff.mp H
                    obtain ⟨t503, A510, H⟩ := H
                    replace H : (if t503 = true then (laws_FnExactLargestApart.j2 kj25 t494 t493 (t500 != t477)) else (laws_FnExactLargestApart.j2 kj25 t494 t493 true)) = some r := H
                    have A51 := Aside0.mk A510
                    clear A510
                    by_cases c52 : t503 = true
                    rotate_left
                    · replace c52 := Bool.eq_false_iff.mpr c52
                      subst c52
                      have H1 : (laws_FnExactLargestApart.j2 kj25 t494 t493 true) = some r := by rw [if_neg (show ¬ (false = true) by decide)] at H; exact H
                      clear H
                      have H := H1
                      clear H1
                      have H' := Aside0.mk H
                      clear H
                      obtain ⟨Ao55, co55, eo55⟩ := Kd.R_slice HO502.out
                      subst eo55
                      obtain ⟨Ao56, co56, eo56⟩ := Kd.V_slice HO_4.out
                      subst eo56
                      go_wp2_with (first | ((with_reducible refine gate_callee (f := 12) rfl ?_); refine goesL_ (some 81) rfl rfl Try.func12 (by kernel_rfl) rfl #[.slice Ao55 t499.length co55, .slice Ao56 t474.length co56] rfl (by (try simp only [List.map_toArray, List.map_cons, List.map_nil]); first | done | rfl | (simp only [List.length_drop, List.length_take]; rfl)) ?_; (with_reducible refine (laws_eqInt64S.calls kj25 _ _ t499 _ _ t474 false _ ?side1 ?side2 ?side3 ?side4 A51.out).mono ?_); (case side1 => repeat (first | exact (Kd.R_reads' HO502.out).2.2 | (with_reducible refine Kd.C_alloc ?_ _) | (with_reducible refine Kd.C_drewN ?_ _) | (with_reducible refine Kd.C_drew ?_))); (case side2 => exact (Kd.R_reads' HO502.out).2.1); (case side3 => repeat (first | exact (Kd.V_reads' HO_4.out).2.2 | (with_reducible refine Kd.C_alloc ?_ _) | (with_reducible refine Kd.C_drewN ?_ _) | (with_reducible refine Kd.C_drew ?_))); (case side4 => exact (Kd.V_reads' HO_4.out).2.1); rintro e w' ⟨rfl, ⟨nd, rfl⟩⟩; refine ⟨_, rfl, ?_⟩))
                      go_meet
                      case rel => exact ⟨_, (true), (by first | rfl | (simp; done) | (simp [*]; done)), H', ⟨by have := HJ7.out; have := HJ25.out; first | omega | exact Nat.le_refl _⟩, ⟨by (with_reducible repeat (first | apply Kd.R_alloc | apply Kd.R_drewN | apply Kd.R_drew)); exact Kd.R_mono HO_7.out (fun _ hk => trivial)⟩, ⟨by repeat (first | (with_reducible first | exact HB.out | apply below_alloc | apply pw_below_drewN | apply below_drew1) | exact HB.out)⟩⟩
                    subst c52
                    have H1 : (laws_FnExactLargestApart.j2 kj25 t494 t493 (t500 != t477)) = some r := by rw [if_pos rfl] at H; exact H
                    clear H
                    have H := H1
                    clear H1
                    have H' := Aside0.mk H
                    clear H
                    obtain ⟨Ao53, co53, eo53⟩ := Kd.R_slice HO502.out
                    subst eo53
                    obtain ⟨Ao54, co54, eo54⟩ := Kd.V_slice HO_4.out
                    subst eo54
                    go_wp2_with (first | ((with_reducible refine gate_callee (f := 12) rfl ?_); refine goesL_ (some 81) rfl rfl Try.func12 (by kernel_rfl) rfl #[.slice Ao53 t499.length co53, .slice Ao54 t474.length co54] rfl (by (try simp only [List.map_toArray, List.map_cons, List.map_nil]); first | done | rfl | (simp only [List.length_drop, List.length_take]; rfl)) ?_; (with_reducible refine (laws_eqInt64S.calls kj25 _ _ t499 _ _ t474 true _ ?side1 ?side2 ?side3 ?side4 A51.out).mono ?_); (case side1 => repeat (first | exact (Kd.R_reads' HO502.out).2.2 | (with_reducible refine Kd.C_alloc ?_ _) | (with_reducible refine Kd.C_drewN ?_ _) | (with_reducible refine Kd.C_drew ?_))); (case side2 => exact (Kd.R_reads' HO502.out).2.1); (case side3 => repeat (first | exact (Kd.V_reads' HO_4.out).2.2 | (with_reducible refine Kd.C_alloc ?_ _) | (with_reducible refine Kd.C_drewN ?_ _) | (with_reducible refine Kd.C_drew ?_))); (case side4 => exact (Kd.V_reads' HO_4.out).2.1); rintro e w' ⟨rfl, ⟨nd, rfl⟩⟩; refine ⟨_, rfl, ?_⟩))
                    go_meet
                    case rel => exact ⟨_, ((t500 != t477)), (by first | rfl | (simp; done) | (simp [*]; done)), H', ⟨by have := HJ7.out; have := HJ25.out; first | omega | exact Nat.le_refl _⟩, ⟨by (with_reducible repeat (first | apply Kd.R_alloc | apply Kd.R_drewN | apply Kd.R_drew)); exact Kd.R_mono HO_7.out (fun _ hk => trivial)⟩, ⟨by repeat (first | (with_reducible first | exact HB.out | apply below_alloc | apply pw_below_drewN | apply below_drew1) | exact HB.out)⟩⟩
                  case rest =>
                    clear HC45
                    try clear c1
                    try clear c2
                    try clear p2
                    try clear c3
                    try clear c3b0
                    try clear c4
                    try clear c5
                    try clear c6
                    try clear c12
                    try clear c13
                    try clear c14
                    try clear c16
                    try clear c17
                    try clear c19
                    try clear c21
                    try clear c22
                    try clear c23
                    try clear c24
                    try clear c31
                    try clear c31b0
                    try clear c33
                    try clear c38
                    try clear c41
                    try clear c41b0
                    try clear c42
                    try clear c42b0
                    try clear c42b1
                    try clear c52
                    try clear p2
                    obtain ⟨kq, x87_44, rfl, HA, HJ44, HO_7, HB⟩ := hcut
                    have hl7_44 := (Kd.R_reads' HO_7.out).1
                    rw [hl7_44] at HO_7
                    (try simp only [hl7_44])
                    cases kq with
                    | zero => exact absurd HA.out (by simp [laws_FnExactLargestApart.j2])
                    | succ kj44 =>
                      have H := HA.out
                      clear HA
                      simp only [laws_FnExactLargestApart.j2] at H
                      by_cases c57 : x87_44 = true
                      rotate_left
                      · replace c57 := Bool.eq_false_iff.mpr c57
                        subst c57
                        have H1 : ((laws_heldInt64S.f kj44 t494 1).bind fun t504 => (if t504 < 0 then (some false) else (if t504 = t493 then (some true) else (some false)))) = some r := by rw [if_neg (show ¬ (false = true) by decide)] at H; exact H
                        clear H
                        have H := H1
                        clear H1
                        replace H := Option.bind_eq_some_iff.mp H
                        obtain ⟨t504, A580, H⟩ := H
                        replace H : (if t504 < 0 then (some false) else (if t504 = t493 then (some true) else (some false))) = some r := H
                        have A58 := Aside0.mk A580
                        clear A580
                        by_cases c59 : t504 < 0
                        rotate_left
                        · rw [if_neg c59] at H
                          have c59b0 : decide (t504 < 0) = false := decide_eq_false c59
                          clear c59
                          by_cases c60 : t504 = t493
                          rotate_left
                          · rw [if_neg c60] at H
                            have c60b0 : (t504 == t493) = false := beq_eq_false_iff_ne.mpr c60
                            have c60b1 : (t504 != t493) = true := bne_iff_ne.mpr c60
                            exact absurd ((Option.some.inj H).trans HLAW.out) (by decide)
                          rw [if_pos c60] at H
                          have c60b0 : (t504 == t493) = true := beq_iff_eq.mpr c60
                          have c60b1 : (t504 != t493) = false := bne_eq_false_iff_eq.mpr c60
                          clear c60
                          obtain rfl := Option.some.inj H
                          go_wp2_with (first | ((with_reducible refine gate_callee (f := 14) rfl ?_); refine goesL_ (some 90) rfl rfl Try.func14 (by kernel_rfl) rfl #[.slice Ao46 t494.length co46, .int .i64 1] rfl (by (try simp only [List.map_toArray, List.map_cons, List.map_nil]); first | done | rfl | (simp only [List.length_drop, List.length_take]; rfl)) ?_; (with_reducible refine (laws_heldInt64S.calls kj44 _ _ t494 1 t504 _ ?side1 ?side2 A58.out).mono ?_); (case side1 => repeat (first | exact (Kd.R_reads' HO_7.out).2.2 | (with_reducible refine Kd.C_alloc ?_ _) | (with_reducible refine Kd.C_drewN ?_ _) | (with_reducible refine Kd.C_drew ?_))); (case side2 => exact (Kd.R_reads' HO_7.out).2.1); rintro e w' ⟨rfl, ⟨nd, rfl⟩⟩; refine ⟨_, rfl, ?_⟩))
                          go_ret
                          exact ⟨by first | rfl | (simp [errW_none, errW_some] <;> rfl) | (simp [*, errW_none, errW_some] <;> rfl), by repeat (first | (with_reducible first | exact HB.out | apply below_alloc | apply pw_below_drewN | apply below_drew1) | exact HB.out)⟩
                        rw [if_pos c59] at H
                        have c59b0 : decide (t504 < 0) = true := decide_eq_true c59
                        clear c59
                        exact absurd ((Option.some.inj H).trans HLAW.out) (by decide)
                      subst c57
                      have H1 : (some false) = some r := by rw [if_pos rfl] at H; exact H
                      clear H
                      have H := H1
                      clear H1
                      exact absurd ((Option.some.inj H).trans HLAW.out) (by decide)
                rw [if_pos c41] at H
                have c41b0 : decide (t495 < 0) = true := decide_eq_true c41
                clear c41
                exact absurd ((Option.some.inj H).trans HLAW.out) (by decide)
              subst c38
              have H1 : (some false) = some r := by rw [if_pos rfl] at H; exact H
              clear H
              have H := H1
              clear H1
              exact absurd ((Option.some.inj H).trans HLAW.out) (by decide)
        subst c21
        have H1 : (some false) = some r := by rw [if_pos rfl] at H; exact H
        clear H
        have H := H1
        clear H1
        exact absurd ((Option.some.inj H).trans HLAW.out) (by decide)
  rw [if_pos c3] at H
  have c3b0 : decide (t470 < 0) = true := decide_eq_true c3
  clear c3
  obtain rfl := Option.some.inj H
  go_enter Try.func6, Try.ntmps6
  go_wp2_with (first | ((with_reducible refine gate_callee (f := 17) rfl ?_); refine goesL_ (some 16) rfl rfl Try.func17 (by kernel_rfl) rfl #[.slice A0 l0.length c0, .int .i64 1048576] rfl (by (try simp only [List.map_toArray, List.map_cons, List.map_nil]); first | done | rfl | (simp only [List.length_drop, List.length_take]; rfl)) ?_; (with_reducible refine (laws_szBoxS.calls _ _ l0 1048576 t470 _ ?side1 ?side2 A2.out).mono ?_); (case side1 => repeat (first | exact HR0.out | (with_reducible refine Kd.C_alloc ?_ _) | (with_reducible refine Kd.C_drewN ?_ _) | (with_reducible refine Kd.C_drew ?_))); (case side2 => exact HC0.out); rintro e w' ⟨rfl, ⟨nd, rfl⟩⟩; refine ⟨_, rfl, ?_⟩))
  go_ret
  exact ⟨by first | rfl | (simp [errW_none, errW_some] <;> rfl) | (simp [*, errW_none, errW_some] <;> rfl), by repeat (first | (with_reducible first | exact HB.out | apply below_alloc | apply pw_below_drewN | apply below_drew1) | exact HB.out)⟩
end Go.Proofs.Ytipdmnibjkdpcaa.P

namespace Go.Proofs.Ytipdmnibjkdpcaa.P
open Go.RowKit Go.Proofs.YtipdmnibjkdpcaaW.PrintWords
def laws_FnExactLargestApart.Pure : Prop := ∀ (x0 : List (S66)), (x0.length ≤ 9223372036854775807 ∧ ∀ x0_ ∈ x0, ((Lit.int .i8 x0_.f0).wf = true ∧ (Lit.int .i8 x0_.f1).wf = true ∧ (Lit.int .i8 x0_.f2).wf = true)) → ∃ k, laws_FnExactLargestApart.f k x0 = some true
end Go.Proofs.Ytipdmnibjkdpcaa.P

namespace Go.Proofs.Ytipdmnibjkdpcaa.Pure
open Go.RowKit Go.Proofs.Ytipdmnibjkdpcaa.P Go.Proofs.YtipdmnibjkdpcaaW.PrintWords Go.Proofs.YtipdmnibjkdpcaaW.PrintLast
set_option linter.unusedVariables false
set_option linter.unusedSimpArgs false
theorem EvG {α : Type} {g : Nat → Option α} {r : α} (h : Ev g r) : ∃ K, ∀ k, K ≤ k → g k = some r := h
theorem EvI {α : Type} {g : Nat → Option α} {r : α} (K : Nat) (h : ∀ k, K ≤ k → g k = some r) : Ev g r := ⟨K, h⟩
theorem w64 {x : Int} (h0 : -9223372036854775808 ≤ x) (h1 : x ≤ 9223372036854775807) : wrap64 x = x := by
  unfold wrap64; omega
theorem wN (i : Nat) (h : i < 4611686018427387904) : wrap64 ((i : Int) + 1) = ((i + 1 : Nat) : Int) := by
  unfold wrap64; omega
theorem rdN (l : List Int) (i : Nat) : rd l (i : Int) = l.getD i 0 := rfl
theorem getD_eq (l : List Int) (i : Nat) (h : i < l.length) : l.getD i 0 = l[i] := by
  rw [List.getD_eq_getElem?_getD, List.getElem?_eq_getElem h]; rfl
theorem list_ext (a b : List Int) (hl : a.length = b.length) (h : ∀ j, j < b.length → a.getD j 0 = b.getD j 0) : a = b := by
  apply List.ext_getElem hl
  intro i h1 h2
  have := h i h2
  rwa [getD_eq a i h1, getD_eq b i h2] at this
theorem getD_set (l : List Int) (i j : Nat) (v : Int) (h : i < l.length) : (l.set i v).getD j 0 = if i = j then v else l.getD j 0 := by
  simp only [List.getD_eq_getElem?_getD, List.getElem?_set]
  by_cases e : i = j
  · subst e; simp [h]
  · simp [e]
end Go.Proofs.Ytipdmnibjkdpcaa.Pure

namespace Go.Proofs.Ytipdmnibjkdpcaa.Pure
open Go.RowKit Go.Proofs.Ytipdmnibjkdpcaa.P Go.Proofs.YtipdmnibjkdpcaaW.PrintWords Go.Proofs.YtipdmnibjkdpcaaW.PrintLast
set_option linter.unusedVariables false
set_option linter.unusedSimpArgs false
theorem eqI_l0 (l : List Int) (hb : l.length ≤ 17592186044415) : ∀ d i, l.length - i = d → i ≤ l.length → Ev (fun k => laws_eqInt64S.l0 k l l (i : Int)) true := by
  intro d
  induction d with
  | zero =>
    intro i hd hi
    refine Ev.step (f := fun _ => some true) (fun k => ?_) (Ev.now true)
    rw [laws_eqInt64S.l0, if_neg (by omega)]
  | succ d ih =>
    intro i hd hi
    refine Ev.step (fun k => ?_) (ih (i + 1) (by omega) (by omega))
    rw [laws_eqInt64S.l0, if_pos (by omega), if_pos (by omega), if_pos (by omega), if_pos rfl, wN i (by omega)]
theorem eqI (l : List Int) (hb : l.length ≤ 17592186044415) : Ev (fun k => laws_eqInt64S.f k l l) true := by
  refine Ev.congr (f := fun k => laws_eqInt64S.l0 k l l ((0 : Nat) : Int)) (fun k => ?_) (eqI_l0 l hb _ 0 rfl (Nat.zero_le _))
  simp only [laws_eqInt64S.f, if_true]; rfl
def iota (m : Nat) : Nat → List Int
  | 0 => []
  | n + 1 => (m : Int) :: iota (m + 1) n
theorem iota_len (m n : Nat) : (iota m n).length = n := by
  induction n generalizing m with
  | zero => rfl
  | succ n ih => simp [iota, ih]
theorem iota_at (m n j : Nat) (h : j < n) : (iota m n).getD j 0 = ((m + j : Nat) : Int) := by
  induction n generalizing m j with
  | zero => omega
  | succ n ih =>
    cases j with
    | zero => rfl
    | succ j =>
      have := ih (m + 1) j (by omega)
      simp only [iota, List.getD_cons_succ, this]
      omega
theorem markI_l0 (n m : Nat) (hb : n ≤ 17592186044415) (hm : m ≤ 17592186044415) : ∀ d i x, n - i = d → i ≤ n → x.length = n → (∀ j, j < i → x.getD j 0 = ((m + j : Nat) : Int)) →
    Ev (fun k => laws_markInt64S.l0 k x ((m + i : Nat) : Int) (i : Int)) (((m + n : Nat) : Int), iota m n) := by
  intro d
  induction d with
  | zero =>
    intro i x hd hi hx hj
    obtain rfl : i = n := by omega
    refine Ev.step (f := fun _ => some (((m + i : Nat) : Int), x)) (fun k => ?_) ?_
    · rw [laws_markInt64S.l0, if_neg (by omega)]
    · have : x = iota m i := list_ext x _ (by rw [iota_len]; exact hx) (fun j h => by rw [iota_len] at h; rw [hj j h, iota_at m i j h])
      rw [this]; exact Ev.now _
  | succ d ih =>
    intro i x hd hi hx hj
    refine Ev.step (fun k => ?_) (ih (i + 1) (x.set i ((m + i : Nat) : Int)) (by omega) (by omega) (by simpa using hx) ?_)
    · rw [laws_markInt64S.l0, if_pos (by omega), if_pos (by omega), wN i (by omega), wN (m + i) (by omega), Int.toNat_natCast]; rfl
    · intro j h
      rw [getD_set x i j _ (by omega)]
      by_cases e : i = j
      · rw [if_pos e, e]
      · rw [if_neg e]; exact hj j (by omega)
theorem markI (l : List Int) (m : Nat) (hb : l.length ≤ 17592186044415) (hm : m ≤ 17592186044415) : Ev (fun k => laws_markInt64S.f k l (m : Int)) (((m + l.length : Nat) : Int), iota m l.length) :=
  markI_l0 l.length m hb hm _ 0 l rfl (Nat.zero_le _) rfl (fun j h => absurd h (Nat.not_lt_zero _))
theorem heldI_l0 (n m : Nat) (hb : n ≤ 17592186044415) (hm : m ≤ 17592186044415) : ∀ d i, n - i = d → i ≤ n → Ev (fun k => laws_heldInt64S.l0 k (iota m n) ((m + i : Nat) : Int) (i : Int)) ((m + n : Nat) : Int) := by
  intro d
  induction d with
  | zero =>
    intro i hd hi
    obtain rfl : i = n := by omega
    refine Ev.step (f := fun _ => some (((m + i : Nat) : Int))) (fun k => ?_) (Ev.now _)
    rw [laws_heldInt64S.l0, iota_len, if_neg (by omega)]
  | succ d ih =>
    intro i hd hi
    refine Ev.step (fun k => ?_) (ih (i + 1) (by omega) (by omega))
    rw [laws_heldInt64S.l0, iota_len, if_pos (by omega), if_pos (by omega), rdN, iota_at m n i (by omega), if_pos rfl, wN i (by omega), wN (m + i) (by omega)]; rfl
theorem heldI (n m : Nat) (hb : n ≤ 17592186044415) (hm : m ≤ 17592186044415) : Ev (fun k => laws_heldInt64S.f k (iota m n) (m : Int)) ((m + n : Nat) : Int) :=
  heldI_l0 n m hb hm _ 0 rfl (Nat.zero_le _)
end Go.Proofs.Ytipdmnibjkdpcaa.Pure

namespace Go.Proofs.Ytipdmnibjkdpcaa.Pure
open Go.RowKit Go.Proofs.Ytipdmnibjkdpcaa.P Go.Proofs.YtipdmnibjkdpcaaW.PrintWords Go.Proofs.YtipdmnibjkdpcaaW.PrintLast
set_option linter.unusedVariables false
set_option linter.unusedSimpArgs false
theorem inF (a lo hi : Int) : spec_l00In.f a lo hi = some (decide (lo ≤ a) && decide (a ≤ hi)) := by
  unfold spec_l00In.f; by_cases h : lo ≤ a <;> simp [h]
theorem w8 {a : Int} (w : (Lit.int .i8 a).wf = true) : wrap64 a = a := by
  obtain ⟨h0, h1⟩ := bounds_i8 w
  exact w64 (by omega) (by omega)
def okB (a b c : Int) : Bool := (decide (1 ≤ a) && decide (a ≤ 60)) && ((decide (1 ≤ b) && decide (b ≤ 60)) && (decide (1 ≤ c) && decide (c ≤ 60)))
theorem specOk {a b c : Int} (wa : (Lit.int .i8 a).wf = true) (wb : (Lit.int .i8 b).wf = true) (wc : (Lit.int .i8 c).wf = true) : spec_l02Ok.f a b c = some (okB a b c) := by
  unfold spec_l02Ok.f okB
  rw [inF, inF, inF, w8 wa, w8 wb, w8 wc, Option.bind_some]
  cases (decide (1 ≤ a) && decide (a ≤ 60)) <;> cases (decide (1 ≤ b) && decide (b ≤ 60)) <;> rfl
theorem sidesF {a b c : Int} (wa : (Lit.int .i8 a).wf = true) (wb : (Lit.int .i8 b).wf = true) (wc : (Lit.int .i8 c).wf = true) : impl_Box_sides.f a b c = some [a, b, c] := by
  unfold impl_Box_sides.f; rw [w8 wa, w8 wb, w8 wc]
theorem implOk {a b c : Int} (wa : (Lit.int .i8 a).wf = true) (wb : (Lit.int .i8 b).wf = true) (wc : (Lit.int .i8 c).wf = true) : impl_ValidBox.f a b c = some (okB a b c) := by
  unfold impl_ValidBox.f impl_areWithin.f
  rw [sidesF wa wb wc]
  simp only [Option.bind_some, List.all_cons, List.all_nil, Bool.and_true, okB]
theorem toB (a b c : Int) : laws_toBox.f a b c = some (a, b, c) := rfl
end Go.Proofs.Ytipdmnibjkdpcaa.Pure

namespace Go.Proofs.Ytipdmnibjkdpcaa.Pure
open Go.RowKit Go.Proofs.Ytipdmnibjkdpcaa.P Go.Proofs.YtipdmnibjkdpcaaW.PrintWords Go.Proofs.YtipdmnibjkdpcaaW.PrintLast
set_option linter.unusedVariables false
set_option linter.unusedSimpArgs false
def ltx (p q : S64) : Prop := p.f0 < q.f0 ∨ (p.f0 = q.f0 ∧ (p.f1 < q.f1 ∨ (p.f1 = q.f1 ∧ p.f2 < q.f2)))
theorem ltx_asymm {p q : S64} : ltx p q → ¬ ltx q p := by unfold ltx; omega
theorem lex_trans {p q r : S64} : ¬ ltx q p → ¬ ltx r q → ¬ ltx r p := by unfold ltx; omega
theorem ltx_irrefl (p : S64) : ¬ ltx p p := by unfold ltx; omega
theorem ltx_le {p q r : S64} : ¬ ltx q p → ltx q r → ltx p r := by unfold ltx; omega
theorem S_ext {p q : S64} (h0 : p.f0 = q.f0) (h1 : p.f1 = q.f1) (h2 : p.f2 = q.f2) : p = q := by
  cases p; cases q; simp only at h0 h1 h2; subst h0 h1 h2; rfl
theorem ltx_eq {p q : S64} (h : ¬ ltx p q) (h' : ¬ ltx q p) : p = q := by
  unfold ltx at h h'
  exact S_ext (by omega) (by omega) (by omega)
def same (p q : S64) : Bool := (p.f0 == q.f0 && (p.f1 == q.f1 && p.f2 == q.f2))
theorem same_iff {p q : S64} : same p q = true ↔ p = q := by
  unfold same
  constructor
  · intro h
    simp only [Bool.and_eq_true, beq_iff_eq] at h
    exact S_ext h.1 h.2.1 h.2.2
  · rintro rfl; simp
theorem same_not (p q : S64) : (!(p.f0 == q.f0) || (!(p.f1 == q.f1) || (!(p.f2 == q.f2)))) = !same p q := by
  unfold same
  cases (p.f0 == q.f0) <;> cases (p.f1 == q.f1) <;> cases (p.f2 == q.f2) <;> rfl
theorem rise_uniq : ∀ (l m : List S64), l.Pairwise ltx → m.Pairwise ltx → (∀ s, s ∈ l ↔ s ∈ m) → l = m := by
  intro l
  induction l with
  | nil =>
    intro m _ _ h
    cases m with
    | nil => rfl
    | cons b m => exact absurd ((h b).2 (List.mem_cons_self ..)) (List.not_mem_nil)
  | cons a l ih =>
    intro m hl hm h
    cases m with
    | nil => exact absurd ((h a).1 (List.mem_cons_self ..)) (List.not_mem_nil)
    | cons b m =>
      rw [List.pairwise_cons] at hl hm
      have hab : a = b := by
        rcases List.mem_cons.1 ((h a).1 (List.mem_cons_self ..)) with e | e
        · exact e
        · rcases List.mem_cons.1 ((h b).2 (List.mem_cons_self ..)) with e' | e'
          · exact e'.symm
          · exact absurd (hm.1 a e) (ltx_asymm (hl.1 b e'))
      subst hab
      rw [ih m hl.2 hm.2 (fun s => ?_)]
      constructor
      · intro hs
        rcases List.mem_cons.1 ((h s).1 (List.mem_cons_of_mem _ hs)) with e | e
        · subst e; exact absurd (hl.1 s hs) (ltx_irrefl s)
        · exact e
      · intro hs
        rcases List.mem_cons.1 ((h s).2 (List.mem_cons_of_mem _ hs)) with e | e
        · subst e; exact absurd (hm.1 s hs) (ltx_irrefl s)
        · exact e
def c3 (a b : Int) : Int := if a < b then -1 else if a > b then 1 else 0
theorem cmpI (a b : Int) : cmp_Compare_int8.f a b = some (c3 a b) := by
  unfold cmp_Compare_int8.f cmp_isNaN_int8.f c3
  simp only [Option.bind_some, bne_self_eq_false, Bool.false_eq_true, if_false]
  split
  · rfl
  · split <;> rfl
theorem orF (x y z : Int) (k : Nat) : cmp_Or_int.f (k + 4) [x, y, z] = some (if x = 0 then (if y = 0 then z else y) else x) := by
  have l1 : (([x, y, z] : List Int).length : Int) = 3 := rfl
  have r0 : rd [x, y, z] 0 = x := rfl
  have r1 : rd [x, y, z] 1 = y := rfl
  have r2 : rd [x, y, z] 2 = z := rfl
  rw [cmp_Or_int.f, l1, show k + 4 = k + 3 + 1 from rfl, cmp_Or_int.l0, if_pos (by omega), if_pos (by omega), if_pos (by omega), r0, w64 (x := 0 + 1) (by omega) (by omega)]
  by_cases hx : x = 0
  · rw [if_pos hx, if_pos hx, show (0 : Int) + 1 = 1 from rfl, show k + 3 = k + 2 + 1 from rfl, cmp_Or_int.l0, if_pos (by omega), if_pos (by omega), if_pos (by omega), r1, w64 (x := 1 + 1) (by omega) (by omega)]
    by_cases hy : y = 0
    · rw [if_pos hy, if_pos hy, show (1 : Int) + 1 = 2 from rfl, show k + 2 = k + 1 + 1 from rfl, cmp_Or_int.l0, if_pos (by omega), if_pos (by omega), if_pos (by omega), r2, w64 (x := 2 + 1) (by omega) (by omega)]
      by_cases hz : z = 0
      · rw [if_pos hz, show (2 : Int) + 1 = 3 from rfl, cmp_Or_int.l0, if_neg (by omega), hz]
      · rw [if_neg hz]
    · rw [if_neg hy, if_neg hy]
  · rw [if_neg hx, if_neg hx]
theorem cmpEv (p q : S64) : ∃ c, (∀ k, impl_Box_turns_1.f (k + 4) p.f0 p.f1 p.f2 q.f0 q.f1 q.f2 = some c) ∧ (c < 0 ↔ ltx p q) := by
  refine ⟨_, fun k => by rw [impl_Box_turns_1.f, cmpI, cmpI, cmpI, Option.bind_some, Option.bind_some, Option.bind_some, orF, Option.bind_some], ?_⟩
  unfold c3 ltx
  by_cases h0 : p.f0 < q.f0 <;> by_cases h1 : p.f0 > q.f0 <;> by_cases h2 : p.f1 < q.f1 <;> by_cases h3 : p.f1 > q.f1 <;> by_cases h4 : p.f2 < q.f2 <;> by_cases h5 : p.f2 > q.f2 <;> simp only [h0, h1, h2, h3, h4, h5, if_true, if_false] <;> simp <;> omega
end Go.Proofs.Ytipdmnibjkdpcaa.Pure

namespace Go.Proofs.Ytipdmnibjkdpcaa.Pure
open Go.RowKit Go.Proofs.Ytipdmnibjkdpcaa.P Go.Proofs.YtipdmnibjkdpcaaW.PrintWords Go.Proofs.YtipdmnibjkdpcaaW.PrintLast
set_option linter.unusedVariables false
set_option linter.unusedSimpArgs false
theorem rdT (l : List S64) (i : Nat) : rd_T64 l (i : Int) = l.getD i z64 := rfl
theorem getD_eqG {α : Type} (z : α) (l : List α) (i : Nat) (h : i < l.length) : l.getD i z = l[i] := by
  rw [List.getD_eq_getElem?_getD, List.getElem?_eq_getElem h]; rfl
theorem getD_setG {α : Type} (z : α) (l : List α) (i j : Nat) (v : α) (h : i < l.length) : (l.set i v).getD j z = if i = j then v else l.getD j z := by
  simp only [List.getD_eq_getElem?_getD, List.getElem?_set]
  by_cases e : i = j
  · subst e; simp [h]
  · simp [e]
theorem mem_getDG {α : Type} (z : α) (l : List α) (s : α) : s ∈ l ↔ ∃ i, i < l.length ∧ l.getD i z = s := by
  rw [List.mem_iff_getElem]
  constructor
  · rintro ⟨i, hi, e⟩; exact ⟨i, hi, by rw [getD_eqG z l i hi, e]⟩
  · rintro ⟨i, hi, e⟩; exact ⟨i, hi, by rw [← getD_eqG z l i hi, e]⟩
def Srt (x : List S64) (i : Nat) : Prop := ∀ p q, p < q → q ≤ i → ¬ ltx (x.getD q z64) (x.getD p z64)
def Alike (x y : List S64) : Prop := ∀ s, s ∈ x ↔ s ∈ y
def Ins (x : List S64) (i j : Nat) : Prop := ∀ p q, p < q → q ≤ i → q ≠ j → ¬ ltx (x.getD q z64) (x.getD p z64)
def swp (x : List S64) (j : Nat) : List S64 := (x.set j (x.getD (j - 1) z64)).set (j - 1) (x.getD j z64)
theorem swp_len (x : List S64) (j : Nat) : (swp x j).length = x.length := by simp [swp]
theorem swp_at (x : List S64) (j q : Nat) (h0 : 0 < j) (hj : j < x.length) : (swp x j).getD q z64 = if q = j - 1 then x.getD j z64 else if q = j then x.getD (j - 1) z64 else x.getD q z64 := by
  unfold swp
  rw [getD_setG z64 _ _ _ _ (by rw [List.length_set]; omega), getD_setG z64 _ _ _ _ hj]
  by_cases e1 : q = j - 1
  · rw [if_pos e1, if_pos e1.symm]
  · rw [if_neg e1, if_neg (fun e => e1 e.symm)]
    by_cases e2 : q = j
    · rw [if_pos e2, if_pos e2.symm]
    · rw [if_neg e2, if_neg (fun e => e2 e.symm)]
theorem swp_mem (x : List S64) (j : Nat) (h0 : 0 < j) (hj : j < x.length) : Alike (swp x j) x := by
  intro s
  rw [mem_getDG z64, mem_getDG z64, swp_len]
  constructor
  · rintro ⟨i, hi, e⟩
    rw [swp_at x j i h0 hj] at e
    by_cases e1 : i = j - 1
    · rw [if_pos e1] at e; exact ⟨j, hj, e⟩
    · rw [if_neg e1] at e
      by_cases e2 : i = j
      · rw [if_pos e2] at e; exact ⟨j - 1, by omega, e⟩
      · rw [if_neg e2] at e; exact ⟨i, hi, e⟩
  · rintro ⟨i, hi, e⟩
    by_cases e1 : i = j - 1
    · exact ⟨j, hj, by rw [swp_at x j j h0 hj, if_neg (by omega), if_pos rfl, ← e1]; exact e⟩
    · by_cases e2 : i = j
      · exact ⟨j - 1, by omega, by rw [swp_at x j _ h0 hj, if_pos rfl, ← e2]; exact e⟩
      · exact ⟨i, hi, by rw [swp_at x j i h0 hj, if_neg e1, if_neg e2]; exact e⟩
theorem swp_ins (x : List S64) (i j : Nat) (h0 : 0 < j) (hji : j ≤ i) (hi : i < x.length) (h : Ins x i j) (hl : ltx (x.getD j z64) (x.getD (j - 1) z64)) : Ins (swp x j) i (j - 1) := by
  intro p q hpq hqi hqj
  rw [swp_at x j q h0 (by omega), swp_at x j p h0 (by omega), if_neg hqj]
  by_cases e2 : q = j
  · rw [if_pos e2]
    by_cases e3 : p = j - 1
    · rw [if_pos e3]; exact ltx_asymm hl
    · rw [if_neg e3, if_neg (by omega)]
      exact h p (j - 1) (by omega) (by omega) (by omega)
  · rw [if_neg e2]
    by_cases e3 : p = j - 1
    · rw [if_pos e3]; exact h j q (by omega) hqi e2
    · rw [if_neg e3]
      by_cases e4 : p = j
      · rw [if_pos e4]; exact h (j - 1) q (by omega) hqi e2
      · rw [if_neg e4]; exact h p q hpq hqi e2
theorem ins_srt (x : List S64) (i j : Nat) (h : Ins x i j) (he : j = 0 ∨ ¬ ltx (x.getD j z64) (x.getD (j - 1) z64)) : Srt x i := by
  intro p q hpq hqi
  by_cases e : q = j
  · subst e
    rcases he with he | he
    · omega
    · by_cases e2 : p = q - 1
      · subst e2; exact he
      · exact lex_trans (h p (q - 1) (by omega) (by omega) (by omega)) he
  · exact h p q hpq hqi e
theorem ins_l1 (n i : Nat) (hi : i < n) (hn : n ≤ 1000) : ∀ j x, x.length = n → j ≤ i → Ins x i j →
    ∃ x', x'.length = n ∧ Alike x' x ∧ Srt x' i ∧ ∀ r, Ev (fun k => impl_Box_86.l0 k x' 0 (n : Int) ((i + 1 : Nat) : Int)) r → Ev (fun k => impl_Box_86.l1 k x 0 (n : Int) (i : Int) (j : Int)) r := by
  intro j
  induction j with
  | zero =>
    intro x hx hj h
    refine ⟨x, hx, fun s => Iff.rfl, ins_srt x i 0 h (.inl rfl), fun r he => Ev.step (fun k => ?_) he⟩
    rw [impl_Box_86.l1, if_neg (by omega), wN i (by omega)]
  | succ j ih =>
    intro x hx hj h
    obtain ⟨c, hc, hcl⟩ := cmpEv (x.getD (j + 1) z64) (x.getD j z64)
    have ew : wrap64 (((j + 1 : Nat) : Int) - 1) = (j : Int) := by rw [w64 (by omega) (by omega)]; omega
    have e1 : ∀ k, impl_Box_86.l1 (k + 4 + 1) x 0 (n : Int) (i : Int) ((j + 1 : Nat) : Int) = if c < 0 then impl_Box_86.l1 (k + 4) (swp x (j + 1)) 0 (n : Int) (i : Int) (j : Int) else impl_Box_86.l0 (k + 4) x 0 (n : Int) ((i + 1 : Nat) : Int) := fun k => by
      rw [impl_Box_86.l1, if_pos (by omega), if_pos (by omega), if_pos (by omega), ew, if_pos (by omega), if_pos (by omega), rdT, rdT, hc k, Option.bind_some, wN i (by omega)]
      rfl
    by_cases hlt : ltx (x.getD (j + 1) z64) (x.getD j z64)
    · obtain ⟨x', a1, a2, a3, a4⟩ := ih (swp x (j + 1)) (by rw [swp_len, hx]) (by omega) (swp_ins x i (j + 1) (by omega) hj (by omega) h hlt)
      refine ⟨x', a1, fun s => (a2 s).trans (swp_mem x (j + 1) (by omega) (by omega) s), a3, fun r he => ?_⟩
      obtain ⟨K, hK⟩ := EvG (a4 r he)
      refine EvI (K + 5) fun k hk => ?_
      obtain ⟨m, rfl⟩ : ∃ m, k = m + 4 + 1 := ⟨k - 5, by omega⟩
      rw [e1, if_pos (hcl.2 hlt)]
      exact hK _ (by omega)
    · refine ⟨x, hx, fun s => Iff.rfl, ins_srt x i (j + 1) h (.inr hlt), fun r he => ?_⟩
      obtain ⟨K, hK⟩ := EvG he
      refine EvI (K + 5) fun k hk => ?_
      obtain ⟨m, rfl⟩ : ∃ m, k = m + 4 + 1 := ⟨k - 5, by omega⟩
      rw [e1, if_neg (fun q => hlt (hcl.1 q))]
      exact hK _ (by omega)
theorem ins_l0 (n : Nat) (hn : n ≤ 1000) : ∀ d i x, n - i = d → 1 ≤ i → i ≤ n → x.length = n → Srt x (i - 1) → ∃ y, y.length = n ∧ Alike y x ∧ Srt y (n - 1) ∧ Ev (fun k => impl_Box_86.l0 k x 0 (n : Int) (i : Int)) y := by
  intro d
  induction d with
  | zero =>
    intro i x hd h1 hi hx hs
    obtain rfl : i = n := by omega
    refine ⟨x, hx, fun s => Iff.rfl, hs, Ev.step (f := fun _ => some x) (fun k => ?_) (Ev.now _)⟩
    rw [impl_Box_86.l0, if_neg (by omega)]
  | succ d ih =>
    intro i x hd h1 hi hx hs
    obtain ⟨x', a1, a2, a3, a4⟩ := ins_l1 n i (by omega) hn i x hx (Nat.le_refl _) (fun p q hpq hqi hq => hs p q hpq (by omega))
    obtain ⟨y, b1, b2, b3, b4⟩ := ih (i + 1) x' (by omega) (by omega) (by omega) a1 (by rw [Nat.add_sub_cancel]; exact a3)
    refine ⟨y, b1, fun s => (b2 s).trans (a2 s), b3, Ev.step (fun k => ?_) (a4 y b4)⟩
    rw [impl_Box_86.l0, if_pos (by omega)]
theorem sort_small (x : List S64) (h1 : 1 ≤ x.length) (h12 : x.length ≤ 12) (r : Int) (hr : Ev (fun k => bits_Len.f k (IntKind.u64.wrap (x.length : Int))) r) : ∃ y, y.length = x.length ∧ Alike y x ∧ Srt y (x.length - 1) ∧ Ev (fun k => impl_Box_77.f k x) y := by
  obtain ⟨y, a1, a2, a3, a4⟩ := ins_l0 x.length (by omega) _ 1 x rfl (Nat.le_refl _) h1 rfl (fun p q hpq hq => by omega)
  obtain ⟨K1, hr⟩ := EvG hr
  obtain ⟨K2, a4⟩ := EvG a4
  refine ⟨y, a1, a2, a3, EvI (K1 + K2 + 3) fun k hk => ?_⟩
  obtain ⟨m, rfl⟩ : ∃ m, k = m + 2 := ⟨k - 2, by omega⟩
  rw [impl_Box_77.f, hr _ (by omega), Option.bind_some, impl_Box_83.f, impl_Box_83.l0, if_pos (by rw [w64 (by omega) (by omega)]; omega), impl_Box_86.f, w64 (x := 0 + 1) (by omega) (by omega), show (0 : Int) + 1 = ((1 : Nat) : Int) from rfl, a4 m (by omega)]
  rfl
end Go.Proofs.Ytipdmnibjkdpcaa.Pure

namespace Go.Proofs.Ytipdmnibjkdpcaa.Pure
open Go.RowKit Go.Proofs.Ytipdmnibjkdpcaa.P Go.Proofs.YtipdmnibjkdpcaaW.PrintWords Go.Proofs.YtipdmnibjkdpcaaW.PrintLast
set_option linter.unusedVariables false
set_option linter.unusedSimpArgs false
def thin (y : List S64) : Nat → List S64
  | 0 => []
  | p + 1 => if p = 0 then [y.getD 0 z64] else if same (y.getD p z64) (y.getD (p - 1) z64) = true then thin y p else thin y p ++ [y.getD p z64]
theorem thin_spec (y : List S64) (hs : Srt y (y.length - 1)) : ∀ p, p ≤ y.length → (thin y p).Pairwise ltx ∧ (∀ s, s ∈ thin y p ↔ ∃ i, i < p ∧ y.getD i z64 = s) := by
  intro p
  induction p with
  | zero => intro _; exact ⟨List.Pairwise.nil, fun s => ⟨fun h => absurd h List.not_mem_nil, fun ⟨i, hi, _⟩ => absurd hi (Nat.not_lt_zero _)⟩⟩
  | succ p ih =>
    intro hp
    obtain ⟨h1, h2⟩ := ih (by omega)
    rw [thin]
    by_cases h0 : p = 0
    · subst h0
      rw [if_pos rfl]
      refine ⟨List.pairwise_singleton _ _, fun s => ?_⟩
      rw [List.mem_singleton]
      exact ⟨fun e => ⟨0, by omega, e.symm⟩, fun ⟨i, hi, e⟩ => by have h0 : i = 0 := (by omega); rw [← e, h0]⟩
    · rw [if_neg h0]
      by_cases hq : same (y.getD p z64) (y.getD (p - 1) z64) = true
      · rw [if_pos hq]
        refine ⟨h1, fun s => (h2 s).trans ⟨fun ⟨i, hi, e⟩ => ⟨i, by omega, e⟩, fun ⟨i, hi, e⟩ => ?_⟩⟩
        by_cases e2 : i = p
        · subst e2; exact ⟨i - 1, by omega, by rw [← same_iff.1 hq]; exact e⟩
        · exact ⟨i, by omega, e⟩
      · rw [if_neg hq]
        refine ⟨List.pairwise_append.2 ⟨h1, List.pairwise_singleton _ _, fun a ha b hb => ?_⟩, fun s => ?_⟩
        · rw [List.mem_singleton.1 hb]
          obtain ⟨i, hi, e⟩ := (h2 a).1 ha
          have g1 : ltx (y.getD (p - 1) z64) (y.getD p z64) := by
            apply Classical.byContradiction
            intro hn
            exact hq (same_iff.2 (ltx_eq (hs (p - 1) p (by omega) (by omega)) hn))
          subst e
          by_cases e2 : i = p - 1
          · rw [e2]; exact g1
          · exact ltx_le (hs i (p - 1) (by omega) (by omega)) g1
        · rw [List.mem_append, List.mem_singleton, h2 s]
          constructor
          · rintro (⟨i, hi, e⟩ | e)
            · exact ⟨i, by omega, e⟩
            · exact ⟨p, by omega, e.symm⟩
          · rintro ⟨i, hi, e⟩
            by_cases e2 : i = p
            · subst e2; exact .inr e.symm
            · exact .inl ⟨i, by omega, e⟩
theorem getD_drop (y : List S64) (k i : Nat) : (y.drop k).getD i z64 = y.getD (k + i) z64 := by
  simp only [List.getD_eq_getElem?_getD, List.getElem?_drop]
theorem take_set (x : List S64) (k : Nat) (v : S64) (h : k < x.length) : (x.set k v).take (k + 1) = x.take k ++ [v] := by
  rw [List.take_add_one, List.take_set_of_le (Nat.le_refl _), List.getElem?_set_self h]; rfl
theorem comp_l1 (y : List S64) (hn : y.length ≤ 1000) (k0 : Nat) : ∀ d k2 x0 k, y.length - (k0 + k2) = d → 1 ≤ k2 → k0 + k2 ≤ y.length → x0.length = y.length → k < k0 + k2 → x0.take k = thin y (k0 + k2) → k = (thin y (k0 + k2)).length →
    Ev (fun q => impl_Box_81.l1 q x0 (k : Int) (y.drop k0) (k2 : Int)) (thin y y.length) := by
  intro d
  induction d with
  | zero =>
    intro k2 x0 k hd h1 hi hx hk ht hl
    have e : k0 + k2 = y.length := by omega
    rw [e] at ht
    refine Ev.step (f := fun _ => some (thin y y.length)) (fun q => ?_) (Ev.now _)
    rw [impl_Box_81.l1, if_neg (by rw [List.length_drop]; omega), if_pos (by omega), if_pos (by omega), Int.toNat_natCast, ht]
  | succ d ih =>
    intro k2 x0 k hd h1 hi hx hk ht hl
    have ew : wrap64 ((k2 : Int) - 1) = ((k2 - 1 : Nat) : Int) := by rw [w64 (by omega) (by omega)]; omega
    have e3 : thin y (k0 + (k2 + 1)) = if same (y.getD (k0 + k2) z64) (y.getD (k0 + k2 - 1) z64) = true then thin y (k0 + k2) else thin y (k0 + k2) ++ [y.getD (k0 + k2) z64] := by
      rw [← Nat.add_assoc, thin, if_neg (by omega)]
    have g0 : rd_T64 (y.drop k0) (k2 : Int) = y.getD (k0 + k2) z64 := by rw [rdT, getD_drop]
    have g1 : rd_T64 (y.drop k0) ((k2 - 1 : Nat) : Int) = y.getD (k0 + k2 - 1) z64 := by rw [rdT, getD_drop]; congr 1; omega
    have hd2 : (y.drop k0).length = y.length - k0 := List.length_drop
    by_cases hq : same (y.getD (k0 + k2) z64) (y.getD (k0 + k2 - 1) z64) = true
    · rw [if_pos hq] at e3
      refine Ev.step (fun q => ?_) (ih (k2 + 1) x0 k (by omega) (by omega) (by omega) hx (by omega) (by rw [e3]; exact ht) (by rw [e3]; exact hl))
      rw [impl_Box_81.l1, if_pos (by omega), if_pos (by omega), ew, if_pos (by omega), if_pos (by omega), g0, g1, same_not, if_neg (by rw [hq]; simp), wN k2 (by omega)]
    · rw [if_neg hq] at e3
      refine Ev.step (fun q => ?_) (ih (k2 + 1) (x0.set k (y.getD (k0 + k2) z64)) (k + 1) (by omega) (by omega) (by omega) (by rw [List.length_set, hx]) (by omega) (by rw [e3, take_set x0 k _ (by omega), ht]) (by rw [e3, List.length_append, ← hl]; rfl))
      rw [impl_Box_81.l1, if_pos (by omega), if_pos (by omega), ew, if_pos (by omega), if_pos (by omega), g0, g1, same_not, if_pos (by simpa using hq), if_pos (by omega), if_pos (by omega), wN k2 (by omega), wN k (by omega), Int.toNat_natCast]
theorem comp_l0 (y : List S64) (hn : y.length ≤ 1000) : ∀ d i, y.length - i = d → 1 ≤ i → i ≤ y.length → thin y i = y.take i → Ev (fun q => impl_Box_81.l0 q y (i : Int)) (thin y y.length) := by
  intro d
  induction d with
  | zero =>
    intro i hd h1 hi ht
    obtain rfl : i = y.length := by omega
    rw [List.take_length] at ht
    refine Ev.step (f := fun _ => some y) (fun q => ?_) (by rw [ht]; exact Ev.now _)
    rw [impl_Box_81.l0, if_neg (by omega)]
  | succ d ih =>
    intro i hd h1 hi ht
    have ew : wrap64 ((i : Int) - 1) = ((i - 1 : Nat) : Int) := by rw [w64 (by omega) (by omega)]; omega
    have e3 : thin y (i + 1) = if same (y.getD i z64) (y.getD (i - 1) z64) = true then thin y i else thin y i ++ [y.getD i z64] := by
      rw [thin, if_neg (by omega)]
    have hl : (thin y i).length = i := by rw [ht, List.length_take]; omega
    by_cases hq : same (y.getD i z64) (y.getD (i - 1) z64) = true
    · rw [if_pos hq] at e3
      refine Ev.step (fun q => ?_) (comp_l1 y hn i _ 1 y i rfl (Nat.le_refl _) (by omega) rfl (by omega) (by rw [e3, ht]) (by rw [e3, hl]))
      have hq' : (((y.getD i z64).f0 == (y.getD (i - 1) z64).f0) && (((y.getD i z64).f1 == (y.getD (i - 1) z64).f1) && ((y.getD i z64).f2 == (y.getD (i - 1) z64).f2))) = true := hq
      rw [impl_Box_81.l0, if_pos (by omega), if_pos (by omega), ew, if_pos (by omega), if_pos (by omega), rdT, rdT, if_pos hq', if_pos (by omega), Int.toNat_natCast]
      rfl
    · rw [if_neg hq] at e3
      refine Ev.step (fun q => ?_) (ih (i + 1) (by omega) (by omega) (by omega) (by rw [e3, ht, List.take_add_one, List.getD_eq_getElem?_getD, List.getElem?_eq_getElem (by omega)]; rfl))
      have hq' : ¬ (((y.getD i z64).f0 == (y.getD (i - 1) z64).f0) && (((y.getD i z64).f1 == (y.getD (i - 1) z64).f1) && ((y.getD i z64).f2 == (y.getD (i - 1) z64).f2))) = true := hq
      rw [impl_Box_81.l0, if_pos (by omega), if_pos (by omega), ew, if_pos (by omega), if_pos (by omega), rdT, rdT, if_neg hq', wN i (by omega)]
theorem compF (y : List S64) (hn : y.length ≤ 1000) (h2 : 2 ≤ y.length) : Ev (fun q => impl_Box_81.f q y) (thin y y.length) := by
  obtain ⟨K, h⟩ := EvG (comp_l0 y hn _ 1 rfl (Nat.le_refl _) (by omega) (by
    rw [thin, if_pos rfl]
    cases y with
    | nil => simp at h2
    | cons a y => rfl))
  refine EvI K fun q hq => ?_
  rw [impl_Box_81.f, if_neg (by omega)]
  exact h q hq
end Go.Proofs.Ytipdmnibjkdpcaa.Pure

namespace Go.Proofs.Ytipdmnibjkdpcaa.Pure
open Go.RowKit Go.Proofs.Ytipdmnibjkdpcaa.P Go.Proofs.YtipdmnibjkdpcaaW.PrintWords Go.Proofs.YtipdmnibjkdpcaaW.PrintLast
set_option linter.unusedVariables false
set_option linter.unusedSimpArgs false
def six (a b c : Int) : List S64 := [⟨a, b, c⟩, ⟨a, c, b⟩, ⟨b, a, c⟩, ⟨b, c, a⟩, ⟨c, a, b⟩, ⟨c, b, a⟩]
theorem len6 : ∃ r, Ev (fun k => bits_Len.f k (IntKind.u64.wrap ((6 : Nat) : Int))) r := by
  have h : bits_Len.f 1 (IntKind.u64.wrap ((6 : Nat) : Int)) = some 3 := by decide +kernel
  exact ⟨3, Ev.of (fun k => bits_Len.mono _ k) h⟩
theorem turnsI (a b c : Int) : ∃ l : List S64, l.Pairwise ltx ∧ (∀ s, s ∈ l ↔ s ∈ six a b c) ∧ Ev (fun k => impl_Box_turns.f k a b c) l := by
  obtain ⟨r, hr⟩ := len6
  obtain ⟨y, hy1, hy2, hy3, hy4⟩ := sort_small (six a b c) (by simp [six]) (by simp [six]) r hr
  have hl : y.length = 6 := by rw [hy1]; rfl
  obtain ⟨h1, h2⟩ := thin_spec y (by rw [hy1]; exact hy3) y.length (Nat.le_refl _)
  refine ⟨thin y y.length, h1, fun s => ?_, ?_⟩
  · rw [h2 s, ← mem_getDG z64, hy2 s]
  · obtain ⟨K1, h4⟩ := EvG hy4
    obtain ⟨K2, h5⟩ := EvG (compF y (by omega) (by omega))
    refine EvI (K1 + K2) fun k hk => ?_
    rw [impl_Box_turns.f]
    show (impl_Box_77.f k (six a b c)).bind _ = _
    rw [h4 k (by omega), Option.bind_some, h5 k (by omega), Option.bind_some]
def ded : List S64 → List S64 → List S64
  | acc, [] => acc
  | acc, a :: l => if acc.any (fun x => same x a) = true then ded acc l else ded (acc ++ [a]) l
def Good : List S64 → List S64 → Prop
  | _, [] => True
  | acc, a :: l => (a ∈ acc ∧ Good acc l) ∨ ((∀ x ∈ acc, ltx x a) ∧ Good (acc ++ [a]) l)
theorem ded_spec : ∀ (l acc : List S64), acc.Pairwise ltx → Good acc l →
    (ded acc l).Pairwise ltx ∧ ∀ s, s ∈ ded acc l ↔ (s ∈ acc ∨ s ∈ l) := by
  intro l
  induction l with
  | nil => intro acc h _; exact ⟨h, fun s => by simp [ded]⟩
  | cons a l ih =>
    intro acc h h2
    rw [ded]
    rcases h2 with ⟨hm, h2⟩ | ⟨hn, h2⟩
    · have hq : (acc.any fun x => same x a) = true := List.any_eq_true.2 ⟨a, hm, same_iff.2 rfl⟩
      rw [if_pos hq]
      obtain ⟨g1, g2⟩ := ih acc h h2
      refine ⟨g1, fun s => (g2 s).trans ⟨fun e => e.imp id (List.mem_cons_of_mem _), fun e => ?_⟩⟩
      rcases e with e | e
      · exact .inl e
      · rcases List.mem_cons.1 e with e | e
        · rw [e]; exact .inl hm
        · exact .inr e
    · rw [if_neg (fun hq => by
        obtain ⟨x, hx, hs⟩ := List.any_eq_true.1 hq
        have := hn x hx
        rw [same_iff.1 hs] at this
        exact ltx_irrefl _ this)]
      obtain ⟨g1, g2⟩ := ih (acc ++ [a]) (List.pairwise_append.2 ⟨h, List.pairwise_singleton _ _, fun x hx b hb => by rw [List.mem_singleton.1 hb]; exact hn x hx⟩) h2
      refine ⟨g1, fun s => (g2 s).trans ?_⟩
      rw [List.mem_append, List.mem_singleton, List.mem_cons, or_assoc]
theorem sortS (a b c : Int) : ∃ p q r : Int, r ≤ q ∧ q ≤ p ∧ (∀ k, spec_l02Sort.f (k + 2) a b c = some (p, q, r)) ∧ (∀ s, s ∈ six p q r ↔ s ∈ six a b c) := by
  have e : ∀ k, spec_l02Sort.f (k + 2) a b c = if a < b then (if a < c then (if b < c then some (c, b, a) else some (b, c, a)) else (if b < a then some (a, b, c) else some (b, a, c))) else (if b < c then (if a < c then some (c, a, b) else some (a, c, b)) else (if a < b then some (b, a, c) else some (a, b, c))) := fun k => by
    rw [spec_l02Sort.f, spec_l02Sort.j0, spec_l02Sort.j0, spec_l02Sort.j1, spec_l02Sort.j1, spec_l02Sort.j1, spec_l02Sort.j1]
  have m1 : ∀ s, s ∈ six a b c ↔ s ∈ six a b c := fun s => Iff.rfl
  have m2 : ∀ s, s ∈ six b a c ↔ s ∈ six a b c := fun s => by simp only [six, List.mem_cons, List.not_mem_nil, or_false]; exact ⟨fun h => by rcases h with h | h | h | h | h | h <;> simp [h], fun h => by rcases h with h | h | h | h | h | h <;> simp [h]⟩
  have m3 : ∀ s, s ∈ six a c b ↔ s ∈ six a b c := fun s => by simp only [six, List.mem_cons, List.not_mem_nil, or_false]; exact ⟨fun h => by rcases h with h | h | h | h | h | h <;> simp [h], fun h => by rcases h with h | h | h | h | h | h <;> simp [h]⟩
  have m4 : ∀ s, s ∈ six c a b ↔ s ∈ six a b c := fun s => by simp only [six, List.mem_cons, List.not_mem_nil, or_false]; exact ⟨fun h => by rcases h with h | h | h | h | h | h <;> simp [h], fun h => by rcases h with h | h | h | h | h | h <;> simp [h]⟩
  have m5 : ∀ s, s ∈ six b c a ↔ s ∈ six a b c := fun s => by simp only [six, List.mem_cons, List.not_mem_nil, or_false]; exact ⟨fun h => by rcases h with h | h | h | h | h | h <;> simp [h], fun h => by rcases h with h | h | h | h | h | h <;> simp [h]⟩
  have m6 : ∀ s, s ∈ six c b a ↔ s ∈ six a b c := fun s => by simp only [six, List.mem_cons, List.not_mem_nil, or_false]; exact ⟨fun h => by rcases h with h | h | h | h | h | h <;> simp [h], fun h => by rcases h with h | h | h | h | h | h <;> simp [h]⟩
  by_cases h1 : a < b
  · by_cases h2 : a < c
    · by_cases h3 : b < c
      · exact ⟨c, b, a, by omega, by omega, fun k => by rw [e, if_pos h1, if_pos h2, if_pos h3], m6⟩
      · exact ⟨b, c, a, by omega, by omega, fun k => by rw [e, if_pos h1, if_pos h2, if_neg h3], m5⟩
    · exact ⟨b, a, c, by omega, by omega, fun k => by rw [e, if_pos h1, if_neg h2, if_neg (by omega)], m2⟩
  · by_cases h2 : b < c
    · by_cases h3 : a < c
      · exact ⟨c, a, b, by omega, by omega, fun k => by rw [e, if_neg h1, if_pos h2, if_pos h3], m4⟩
      · exact ⟨a, c, b, by omega, by omega, fun k => by rw [e, if_neg h1, if_pos h2, if_neg h3], m3⟩
    · exact ⟨a, b, c, by omega, by omega, fun k => by rw [e, if_neg h1, if_neg h2, if_neg h1], m1⟩
theorem turnsB (a b c : Int) : ∃ (l : List S64) (p q r : Int), l.Pairwise ltx ∧ (∀ s, s ∈ l ↔ s ∈ six a b c) ∧ Ev (fun k => impl_Box_turns.f k a b c) l ∧
    (∀ k, spec_l02Sort.f (k + 2) a b c = some (p, q, r)) ∧ 1 ≤ l.length ∧ l.length ≤ 900 ∧ l.getD (l.length - 1) z64 = ⟨p, q, r⟩ := by
  obtain ⟨l, h1, h2, h3⟩ := turnsI a b c
  obtain ⟨p, q, r, o1, o2, hs, hm⟩ := sortS a b c
  obtain ⟨al, hal⟩ : ∃ al : List S64, al = [⟨r, q, p⟩, ⟨r, p, q⟩, ⟨q, r, p⟩, ⟨q, p, r⟩, ⟨p, r, q⟩, ⟨p, q, r⟩] := ⟨_, rfl⟩
  have hall : al.length = 6 := by rw [hal]; rfl
  have hw : Good [] al := by
    rw [hal]
    by_cases e1 : r = q
    · subst e1
      by_cases e2 : r = p
      · subst e2
        simp [Good]
      · have e3 : r < p := by omega
        simp [Good, ltx, e3]
    · have e3 : r < q := by omega
      by_cases e2 : q = p
      · subst e2
        simp [Good, ltx, e3]
      · have e4 : q < p := by omega
        have e5 : r < p := by omega
        simp [Good, ltx, e3, e4, e5]
  obtain ⟨g1, g2⟩ := ded_spec al [] List.Pairwise.nil hw
  have hmem : ∀ s, s ∈ al ↔ s ∈ six a b c := fun s => by
    rw [← hm s, hal]
    simp only [six, List.mem_cons, List.not_mem_nil, or_false]
    exact ⟨fun h => by rcases h with h | h | h | h | h | h <;> simp [h], fun h => by rcases h with h | h | h | h | h | h <;> simp [h]⟩
  have hd : ded [] al = l := rise_uniq _ _ g1 h1 (fun s => by rw [g2 s, h2 s, ← hmem s]; simp)
  have hlast : (⟨p, q, r⟩ : S64) ∈ l := by rw [h2, ← hmem, hal]; simp
  have hpos : 1 ≤ l.length := List.length_pos_of_mem hlast
  have hle : l.length ≤ 900 := by
    have hdl : ∀ (x acc : List S64), (ded acc x).length ≤ acc.length + x.length := by
      intro x
      induction x with
      | nil => intro acc; simp [ded]
      | cons t x ih =>
        intro acc
        rw [ded]
        split
        · have := ih acc; simp; omega
        · have := ih (acc ++ [t]); simp at this ⊢; omega
    have := hdl al []
    rw [hd, hall] at this
    simp at this; omega
  refine ⟨l, p, q, r, h1, h2, h3, hs, hpos, hle, ?_⟩
  obtain ⟨i, hi, hie⟩ := (mem_getDG z64 l _).1 hlast
  by_cases e : i = l.length - 1
  · rw [← e, hie]
  · exfalso
    have hlt := List.pairwise_iff_getElem.1 h1 i (l.length - 1) hi (by omega) (by omega)
    rw [← getD_eqG z64 l i hi, ← getD_eqG z64 l _ (by omega), hie] at hlt
    have hin : l.getD (l.length - 1) z64 ∈ al := by rw [hmem, ← h2, getD_eqG z64 l _ (by omega)]; exact List.getElem_mem _
    rw [hal] at hin
    generalize l.getD (l.length - 1) z64 = s at hlt hin
    simp only [List.mem_cons, List.not_mem_nil, or_false] at hin
    unfold ltx at hlt
    rcases hin with rfl | rfl | rfl | rfl | rfl | rfl <;> simp only at hlt <;> omega
end Go.Proofs.Ytipdmnibjkdpcaa.Pure

namespace Go.Proofs.Ytipdmnibjkdpcaa.Pure
open Go.RowKit Go.Proofs.Ytipdmnibjkdpcaa.P Go.Proofs.YtipdmnibjkdpcaaW.PrintWords Go.Proofs.YtipdmnibjkdpcaaW.PrintLast
set_option linter.unusedVariables false
set_option linter.unusedSimpArgs false
theorem eqBF (a b c : Int) : laws_eqBox.f a b c a b c = some true := by
  rw [laws_eqBox.f, if_pos rfl, if_pos rfl, if_pos rfl]
theorem eqB_l0 (l : List S64) (hb : l.length ≤ 17592186044415) : ∀ d i, l.length - i = d → i ≤ l.length → Ev (fun k => laws_eqBoxS.l0 k l l (i : Int)) true := by
  intro d
  induction d with
  | zero =>
    intro i hd hi
    refine Ev.step (f := fun _ => some true) (fun k => ?_) (Ev.now _)
    rw [laws_eqBoxS.l0, if_neg (by omega)]
  | succ d ih =>
    intro i hd hi
    refine Ev.step (fun k => ?_) (ih (i + 1) (by omega) (by omega))
    rw [laws_eqBoxS.l0, if_pos (by omega), if_pos (by omega), if_pos (by omega), eqBF, Option.bind_some, if_pos rfl, wN i (by omega)]
theorem eqB (l : List S64) (hb : l.length ≤ 17592186044415) : Ev (fun k => laws_eqBoxS.f k l l) true := by
  refine Ev.congr (f := fun k => laws_eqBoxS.l0 k l l ((0 : Nat) : Int)) (fun k => ?_) (eqB_l0 l hb _ 0 rfl (Nat.zero_le _))
  rw [laws_eqBoxS.f, if_pos rfl]; rfl
theorem getD_memG (l : List S64) (i : Nat) (h : i < l.length) : l.getD i z64 ∈ l := by rw [getD_eqG z64 l i h]; exact List.getElem_mem h
end Go.Proofs.Ytipdmnibjkdpcaa.Pure

namespace Go.Proofs.Ytipdmnibjkdpcaa.Pure
open Go.RowKit Go.Proofs.Ytipdmnibjkdpcaa.P Go.Proofs.YtipdmnibjkdpcaaW.PrintWords Go.Proofs.YtipdmnibjkdpcaaW.PrintLast
set_option linter.unusedVariables false
set_option linter.unusedSimpArgs false
def mkE (m : Nat) : S64 := ⟨IntKind.i8.wrap (m : Int), IntKind.i8.wrap ((m + 1 : Nat) : Int), IntKind.i8.wrap ((m + 2 : Nat) : Int)⟩
def mkB (n : Nat) : List S64 := (List.range n).map fun i => mkE (1 + 3 * i)
theorem mkB_len (n : Nat) : (mkB n).length = n := by simp [mkB]
theorem mkB_at (n i : Nat) (h : i < n) : (mkB n).getD i z64 = mkE (1 + 3 * i) := by
  simp [mkB, List.getD_eq_getElem?_getD, h]
theorem list_extB (a b : List S64) (hl : a.length = b.length) (h : ∀ j, j < b.length → a.getD j z64 = b.getD j z64) : a = b := by
  apply List.ext_getElem hl
  intro i h1 h2
  have := h i h2
  rwa [getD_eqG z64 a i h1, getD_eqG z64 b i h2] at this
theorem markB_l0 (n : Nat) (hb : n ≤ 2000000) : ∀ d i x, n - i = d → i ≤ n → x.length = n → (∀ j, j < i → x.getD j z64 = mkE (1 + 3 * j)) →
    Ev (fun k => laws_markBoxS.l0 k x ((1 + 3 * i : Nat) : Int) (i : Int)) (((1 + 3 * n : Nat) : Int), mkB n) := by
  intro d
  induction d with
  | zero =>
    intro i x hd hi hx hj
    obtain rfl : i = n := by omega
    refine Ev.step (f := fun _ => some (((1 + 3 * i : Nat) : Int), x)) (fun k => ?_) ?_
    · rw [laws_markBoxS.l0, if_neg (by omega)]
    · have : x = mkB i := list_extB x _ (by rw [mkB_len]; exact hx) (fun j h => by rw [mkB_len] at h; rw [hj j h, mkB_at i j h])
      rw [this]; exact Ev.now _
  | succ d ih =>
    intro i x hd hi hx hj
    refine Ev.step (fun k => ?_) (ih (i + 1) (x.set i (mkE (1 + 3 * i))) (by omega) (by omega) (by simpa using hx) ?_)
    · rw [laws_markBoxS.l0, if_pos (by omega), if_pos (by omega), Option.bind_some, Option.bind_some]
      rw [wN (1 + 3 * i) (by omega), wN (1 + 3 * i + 1) (by omega), wN (1 + 3 * i + 1 + 1) (by omega), wN i (by omega)]
      simp only [Int.toNat_natCast, rdT]
      rw [getD_setG z64 _ i i _ (by rw [hx]; omega), if_pos rfl, getD_setG z64 _ i i _ (by rw [List.length_set, hx]; omega), if_pos rfl, List.set_set, List.set_set]
      rfl
    · intro j h
      rw [getD_setG z64 x i j _ (by omega)]
      by_cases e : i = j
      · rw [if_pos e, e]
      · rw [if_neg e]; exact hj j (by omega)
theorem markB (l : List S64) (hb : l.length ≤ 2000000) : Ev (fun k => laws_markBoxS.f k l 1) (((1 + 3 * l.length : Nat) : Int), mkB l.length) :=
  markB_l0 l.length hb _ 0 l rfl (Nat.zero_le _) rfl (fun j h => absurd h (Nat.not_lt_zero _))
end Go.Proofs.Ytipdmnibjkdpcaa.Pure

namespace Go.Proofs.Ytipdmnibjkdpcaa.Pure
open Go.RowKit Go.Proofs.Ytipdmnibjkdpcaa.P Go.Proofs.YtipdmnibjkdpcaaW.PrintWords Go.Proofs.YtipdmnibjkdpcaaW.PrintLast
set_option linter.unusedVariables false
set_option linter.unusedSimpArgs false
theorem rdT66 (l : List S66) (i : Nat) : rd_T66 l (i : Int) = l.getD i z66 := rfl
theorem list_extT (a b : List S64) (hl : a.length = b.length) (h : ∀ j, j < b.length → a.getD j z64 = b.getD j z64) : a = b := by
  apply List.ext_getElem hl
  intro i h1 h2
  have := h i h2
  rwa [getD_eqG z64 a i h1, getD_eqG z64 b i h2] at this
def cvb (x : S66) : S64 := ⟨x.f0, x.f1, x.f2⟩
theorem szB (l : List S66) (a : Int) (h0 : 0 ≤ a) (h1 : a ≤ 1048576) (hl : l.length ≤ 9223372036854775807) : laws_szBoxS.f l a = some (if (l.length : Int) ≤ a then a - l.length else -1) := by
  unfold laws_szBoxS.f
  rw [w64 (by omega) (by omega)]
  split <;> split <;> first | rfl | omega
theorem toBS_l0 (l : List S66) (hb : l.length ≤ 1048576) : ∀ d i (x : List S64), l.length - i = d → i ≤ l.length → x.length = l.length → (∀ j, j < i → x.getD j z64 = cvb (l.getD j z66)) → Ev (fun k => laws_toBoxS.l0 k l x (i : Int)) (l.map cvb) := by
  intro d
  induction d with
  | zero =>
    intro i x hd hi hx hj
    refine Ev.step (f := fun _ => some x) (fun k => ?_) ?_
    · rw [laws_toBoxS.l0, if_neg (by omega)]
    · have : x = l.map cvb := list_extT x _ (by rw [List.length_map, hx]) (fun j h => by
        rw [List.length_map] at h
        rw [hj j (by omega), getD_eqG z64 _ j (by rw [List.length_map]; exact h), List.getElem_map, getD_eqG z66 l j h])
      rw [this]; exact Ev.now _
  | succ d ih =>
    intro i x hd hi hx hj
    refine Ev.step (fun k => ?_) (ih (i + 1) (x.set i (cvb (l.getD i z66))) (by omega) (by omega) (by simpa using hx) ?_)
    · rw [laws_toBoxS.l0, if_pos (by omega), if_pos (by omega), toB, Option.bind_some, if_pos (by omega), wN i (by omega), rdT66, Int.toNat_natCast]
      rfl
    · intro j h
      rw [getD_setG z64 x i j _ (by omega)]
      by_cases e : i = j
      · rw [if_pos e, e]
      · rw [if_neg e]; exact hj j (by omega)
theorem toBS (l : List S66) (hb : l.length ≤ 1048576) : Ev (fun k => laws_toBoxS.f k l) (l.map cvb) := by
  refine Ev.congr (f := fun k => laws_toBoxS.l0 k l (List.replicate l.length z64) ((0 : Nat) : Int)) (fun k => ?_) (toBS_l0 l hb _ 0 _ rfl (Nat.zero_le _) (by simp) (fun j h => absurd h (Nat.not_lt_zero _)))
  simp only [laws_toBoxS.f, Int.toNat_natCast]
  rw [if_pos (by omega), if_pos (by omega)]; rfl
def okS (s : S64) : Bool := okB s.f0 s.f1 s.f2
def boxesOk (l : List S64) : Bool := decide (l.length ≤ 10) && l.all okS
def wfS (l : List S64) : Prop := ∀ s ∈ l, (Lit.int .i8 s.f0).wf = true ∧ (Lit.int .i8 s.f1).wf = true ∧ (Lit.int .i8 s.f2).wf = true
theorem wf_cvb {l : List S66} (h : ∀ x ∈ l, (Lit.int .i8 x.f0).wf = true ∧ (Lit.int .i8 x.f1).wf = true ∧ (Lit.int .i8 x.f2).wf = true) : wfS (l.map cvb) := by
  intro s hs
  obtain ⟨x, hx, rfl⟩ := List.mem_map.1 hs
  exact h x hx
theorem any_l0 (l : List S64) (hb : l.length ≤ 1048576) (hw : wfS l) : ∀ d i, l.length - i = d → i ≤ l.length → (∀ j, j < i → okS (l.getD j z64) = true) → ∃ r : Int, Ev (fun k => impl_Box_72.l0 k l (l.length : Int) (i : Int)) r ∧ decide (r ≥ 0) = !(l.all okS) := by
  intro d
  induction d with
  | zero =>
    intro i hd hi hj
    refine ⟨-1, Ev.step (f := fun _ => some (-1)) (fun k => by rw [impl_Box_72.l0, if_neg (by omega)]) (Ev.now _), ?_⟩
    have e : l.all okS = true := List.all_eq_true.2 (fun s hs => by
      obtain ⟨j, h1, rfl⟩ := (mem_getDG z64 l s).1 hs
      exact hj j (by omega))
    rw [e]; rfl
  | succ d ih =>
    intro i hd hi hj
    obtain ⟨w0, w1, w2⟩ := hw _ (getD_memG l i (by omega))
    have e : ∀ k, impl_Box_72.l0 (k + 1) l (l.length : Int) (i : Int) = if (!okS (l.getD i z64)) = true then some (i : Int) else impl_Box_72.l0 k l (l.length : Int) ((i + 1 : Nat) : Int) := fun k => by
      rw [impl_Box_72.l0, if_pos (by omega), if_pos (by omega), if_pos (by omega), impl_boxesCode_1.f, rdT, implOk w0 w1 w2, Option.bind_some, Option.bind_some, wN i (by omega)]
      rfl
    by_cases c : okS (l.getD i z64) = true
    · obtain ⟨r, r1, r2⟩ := ih (i + 1) (by omega) (by omega) (fun j h => by
        by_cases e : j = i
        · subst e; exact c
        · exact hj j (by omega))
      exact ⟨r, Ev.step (fun k => by rw [e, c, if_neg (by decide)]) r1, r2⟩
    · have c' : okS (l.getD i z64) = false := by simpa using c
      refine ⟨(i : Int), Ev.step (f := fun _ => some (i : Int)) (fun k => by rw [e, c', if_pos (by decide)]) (Ev.now _), ?_⟩
      have e : l.all okS = false := by
        cases h : l.all okS with
        | false => rfl
        | true => exact absurd (List.all_eq_true.1 h _ (getD_memG l i (by omega))) c
      rw [e]; simp
theorem codeI (l : List S64) (hb : l.length ≤ 1048576) (hw : wfS l) : Ev (fun k => impl_boxesCode.f k l) (if boxesOk l = true then 0 else 1) := by
  obtain ⟨r, r1, r2⟩ := any_l0 l hb hw _ 0 rfl (Nat.zero_le _) (fun j h => absurd h (Nat.not_lt_zero _))
  obtain ⟨K, r1⟩ := EvG r1
  refine EvI K fun k hk => ?_
  have h1 : impl_Box_72.f k l = some r := r1 k hk
  rw [impl_boxesCode.f, boxesOk]
  by_cases c : l.length ≤ 10
  · rw [if_pos (by omega), impl_Box_60.f, h1, Option.bind_some, Option.bind_some, r2, Bool.not_not, impl_unless.f, decide_eq_true c, Bool.true_and]
    cases l.all okS <;> rfl
  · rw [if_neg (by omega), impl_unless.f, decide_eq_false c, Bool.false_and]
    rfl
theorem boxes_l0 (l : List S64) (hb : l.length ≤ 1048576) (hw : wfS l) : ∀ d i, l.length - i = d → i ≤ l.length → (∀ j, j < i → okS (l.getD j z64) = true) → Ev (fun k => spec_l02Boxes.l0 k l (i : Int)) (boxesOk l) := by
  intro d
  induction d with
  | zero =>
    intro i hd hi hj
    have e : l.all okS = true := List.all_eq_true.2 (fun s hs => by
      obtain ⟨j, h1, rfl⟩ := (mem_getDG z64 l s).1 hs
      exact hj j (by omega))
    refine Ev.step (f := fun _ => some (boxesOk l)) (fun k => ?_) (Ev.now _)
    rw [spec_l02Boxes.l0, if_neg (by omega), boxesOk, e, Bool.and_true]
    congr 1
    by_cases c : l.length ≤ 10 <;> simp [c] <;> omega
  | succ d ih =>
    intro i hd hi hj
    obtain ⟨w0, w1, w2⟩ := hw _ (getD_memG l i (by omega))
    have e : ∀ k, spec_l02Boxes.l0 (k + 1) l (i : Int) = if okS (l.getD i z64) = true then spec_l02Boxes.l0 k l ((i + 1 : Nat) : Int) else some false := fun k => by
      rw [spec_l02Boxes.l0, if_pos (by omega), if_pos (by omega), rdT, specOk w0 w1 w2, Option.bind_some, wN i (by omega)]
      rfl
    by_cases c : okS (l.getD i z64) = true
    · exact Ev.step (fun k => by rw [e, if_pos c]) (ih (i + 1) (by omega) (by omega) (fun j h => by
        by_cases e : j = i
        · subst e; exact c
        · exact hj j (by omega)))
    · have e2 : boxesOk l = false := by
        have : l.all okS = false := by
          cases h : l.all okS with
          | false => rfl
          | true => exact absurd (List.all_eq_true.1 h _ (getD_memG l i (by omega))) c
        rw [boxesOk, this, Bool.and_false]
      rw [e2]
      exact Ev.step (f := fun _ => some false) (fun k => by rw [e, if_neg c]) (Ev.now _)
theorem codeS (l : List S64) (hb : l.length ≤ 1048576) (hw : wfS l) : Ev (fun k => spec_l02Boxes.f k l) (boxesOk l) :=
  boxes_l0 l hb hw _ 0 rfl (Nat.zero_le _) (fun j h => absurd h (Nat.not_lt_zero _))
end Go.Proofs.Ytipdmnibjkdpcaa.Pure

namespace Go.Proofs.Ytipdmnibjkdpcaa.Pure
open Go.RowKit Go.Proofs.Ytipdmnibjkdpcaa.P Go.Proofs.YtipdmnibjkdpcaaW.PrintWords Go.Proofs.YtipdmnibjkdpcaaW.PrintLast
set_option linter.unusedVariables false
theorem sortedB (a b c : Int) : ∃ p q r : Int, Ev (fun k => impl_Box_sorted.f k a b c) (p, q, r) ∧ Ev (fun k => spec_l02Sort.f k a b c) (p, q, r) := by
  obtain ⟨l, p, q, r, _, _, hI, hs, h1, h9, hl⟩ := turnsB a b c
  obtain ⟨K, hI⟩ := EvG hI
  have ew : wrap64 ((l.length : Int) - 1) = ((l.length - 1 : Nat) : Int) := by rw [w64 (by omega) (by omega)]; omega
  refine ⟨p, q, r, EvI K fun k hk => ?_, EvI 2 fun k hk => ?_⟩
  · rw [impl_Box_sorted.f, hI k hk, Option.bind_some, ew, if_pos (by omega), if_pos (by omega), rdT, hl]
  · obtain ⟨m, rfl⟩ : ∃ m, k = m + 2 := ⟨k - 2, by omega⟩
    exact hs m
theorem insideB (a b c u v w : Int) : ∃ t : Bool, Ev (fun k => impl_Box_inside.f k a b c u v w) t ∧ Ev (fun k => spec_l02Inside.f k a b c u v w) t := by
  obtain ⟨p, q, r, i1, s1⟩ := sortedB a b c
  obtain ⟨x, y, z, i2, s2⟩ := sortedB u v w
  obtain ⟨K1, i1⟩ := EvG i1
  obtain ⟨K2, i2⟩ := EvG i2
  obtain ⟨K3, s1⟩ := EvG s1
  obtain ⟨K4, s2⟩ := EvG s2
  have eI : ∀ k, K1 + K2 ≤ k → impl_Box_inside.f k a b c u v w = if p < x then (if q < y then some (decide (r < z)) else some false) else some false := fun k hk => by
    rw [impl_Box_inside.f, i1 k (by omega), Option.bind_some, i2 k (by omega), Option.bind_some]
  have eS : ∀ k, K3 + K4 ≤ k → spec_l02Inside.f k a b c u v w = if p < x then (if q < y then some (decide (r < z)) else some false) else some false := fun k hk => by
    rw [spec_l02Inside.f, s1 k (by omega), Option.bind_some, s2 k (by omega), Option.bind_some]
  by_cases c1 : p < x
  · by_cases c2 : q < y
    · exact ⟨_, EvI _ fun k hk => by rw [eI k hk, if_pos c1, if_pos c2], EvI _ fun k hk => by rw [eS k hk, if_pos c1, if_pos c2]⟩
    · exact ⟨_, EvI _ fun k hk => by rw [eI k hk, if_pos c1, if_neg c2], EvI _ fun k hk => by rw [eS k hk, if_pos c1, if_neg c2]⟩
  · exact ⟨_, EvI _ fun k hk => by rw [eI k hk, if_neg c1], EvI _ fun k hk => by rw [eS k hk, if_neg c1]⟩
end Go.Proofs.Ytipdmnibjkdpcaa.Pure

namespace Go.Proofs.Ytipdmnibjkdpcaa.Pure
open Go.RowKit Go.Proofs.Ytipdmnibjkdpcaa.P Go.Proofs.YtipdmnibjkdpcaaW.PrintWords Go.Proofs.YtipdmnibjkdpcaaW.PrintLast
set_option linter.unusedVariables false
set_option linter.unusedSimpArgs false
noncomputable def insS (s t : S64) : Bool := (insideB s.f0 s.f1 s.f2 t.f0 t.f1 t.f2).choose
noncomputable def nestS (s t : S64) : Bool := insS s t || insS t s
theorem insS_i (s t : S64) : Ev (fun k => impl_Box_inside.f k s.f0 s.f1 s.f2 t.f0 t.f1 t.f2) (insS s t) := (insideB s.f0 s.f1 s.f2 t.f0 t.f1 t.f2).choose_spec.1
theorem insS_s (s t : S64) : Ev (fun k => spec_l02Inside.f k s.f0 s.f1 s.f2 t.f0 t.f1 t.f2) (insS s t) := (insideB s.f0 s.f1 s.f2 t.f0 t.f1 t.f2).choose_spec.2
theorem nestF (s t : S64) : Ev (fun k => impl_nested.f k s.f0 s.f1 s.f2 t.f0 t.f1 t.f2) (nestS s t) := by
  obtain ⟨K1, h1⟩ := EvG (insS_i s t)
  obtain ⟨K2, h2⟩ := EvG (insS_i t s)
  refine EvI (K1 + K2) fun k hk => ?_
  rw [impl_nested.f, h1 k (by omega), Option.bind_some, h2 k (by omega), Option.bind_some, nestS]
  cases insS s t <;> cases insS t s <;> rfl
theorem ownF (b : List Int) (h : b.length < 17592186044416) : spec_l00Own.f b = some b := by
  rw [spec_l00Own.f, Option.bind_some, if_pos (by simpa using h), List.nil_append]
theorem rdB (l : List S64) (x : Int) : rd_T64 l x = l.getD x.toNat z64 := rfl
theorem rdL1 (l : List (List Int)) (i : Nat) : rd_L1 l (i : Int) = l.getD i [] := rfl
theorem evAll {α : Type} (m : Nat) (g : Nat → Nat → Option α) (v : Nat → α) (h : ∀ s, s < m → Ev (fun k => g k s) (v s)) : ∃ K, ∀ k, K ≤ k → ∀ s, s < m → g k s = some (v s) := by
  induction m with
  | zero => exact ⟨0, fun k _ s hs => absurd hs (Nat.not_lt_zero _)⟩
  | succ m ih =>
    obtain ⟨K1, h1⟩ := ih (fun s hs => h s (by omega))
    obtain ⟨K2, h2⟩ := EvG (h m (by omega))
    refine ⟨K1 + K2, fun k hk s hs => ?_⟩
    by_cases e : s = m
    · subst e; exact h2 k (by omega)
    · exact h1 k (by omega) s (by omega)
end Go.Proofs.Ytipdmnibjkdpcaa.Pure

namespace Go.Proofs.Ytipdmnibjkdpcaa.Pure
open Go.RowKit Go.Proofs.Ytipdmnibjkdpcaa.P Go.Proofs.YtipdmnibjkdpcaaW.PrintWords Go.Proofs.YtipdmnibjkdpcaaW.PrintLast
set_option linter.unusedVariables false
set_option linter.unusedSimpArgs false
theorem and1 (y : Nat) (hy : y < 4611686018427387904) : Go.bits .and .i64 (y : Int) 1 = ((y % 2 : Nat) : Int) := by
  have h : (BitVec.ofInt IntKind.i64.bits (y : Int) &&& BitVec.ofInt IntKind.i64.bits 1).toNat = y % 2 := by
    show (BitVec.ofInt 64 (y : Int) &&& BitVec.ofInt 64 1).toNat = y % 2
    rw [BitVec.ofInt_natCast, show BitVec.ofInt 64 1 = BitVec.ofNat 64 1 from rfl, BitVec.toNat_and, BitVec.toNat_ofNat, BitVec.toNat_ofNat, Nat.mod_eq_of_lt (by omega : y < 2 ^ 64), Nat.mod_eq_of_lt (by decide : 1 < 2 ^ 64), Nat.and_one_is_mod]
  unfold Go.bits
  simp only
  rw [h]
  have := Nat.mod_lt y (by omega : 0 < 2)
  simp [IntKind.wrap, IntKind.signed, IntKind.bits]
  omega
theorem bitT (s i : Nat) (hs : s < 4294967296) (hi : i < 32) : Go.bits .and .i64 (shr .i64 (s : Int) (i : Int)) 1 = 1 ↔ s.testBit i = true := by
  have h1 : shr .i64 (s : Int) (i : Int) = ((s / 2 ^ i : Nat) : Int) := by
    unfold shr
    rw [show min ((i : Int).toNat) IntKind.i64.bits = i from by show min ((i : Int).toNat) 64 = i; rw [Int.toNat_natCast]; omega]
    simp
  have h2 : s / 2 ^ i ≤ s := Nat.div_le_self _ _
  rw [h1, and1 _ (by omega), Nat.testBit_eq_decide_div_mod_eq, decide_eq_true_eq]
  omega
theorem shl1 (n : Nat) (hn : n ≤ 20) : shl .i64 1 (n : Int) = ((2 ^ n : Nat) : Int) := by
  have h := Nat.pow_le_pow_right (show 0 < 2 by omega) hn
  unfold shl
  rw [show min ((n : Int).toNat) IntKind.i64.bits = n from by show min ((n : Int).toNat) 64 = n; rw [Int.toNat_natCast]; omega, i64_w, Int.one_mul, show (2 : Int) ^ n = ((2 ^ n : Nat) : Int) from by simp]
  generalize 2 ^ n = m at h ⊢
  exact w64 (by omega) (by omega)
def ow (s : Nat) : Nat → List Int
  | 0 => []
  | i + 1 => if s.testBit i = true then ow s i ++ [(i : Int)] else ow s i
theorem ow_len (s : Nat) : ∀ i, (ow s i).length ≤ i
  | 0 => Nat.le_refl _
  | i + 1 => by
    have := ow_len s i
    rw [ow]
    split
    · simp; omega
    · omega
theorem ow_congr (s t : Nat) : ∀ i, (∀ j, j < i → s.testBit j = t.testBit j) → ow s i = ow t i
  | 0, _ => rfl
  | i + 1, h => by rw [ow, ow, h i (by omega), ow_congr s t i (fun j hj => h j (by omega))]
def Inc (n : Nat) : Nat → List Int → Prop
  | _, [] => True
  | lo, x :: xs => ∃ i : Nat, x = (i : Int) ∧ lo ≤ i ∧ i < n ∧ Inc n (i + 1) xs
theorem Inc.up {n m : Nat} (hm : n ≤ m) : ∀ {lo : Nat} {L : List Int}, Inc n lo L → Inc m lo L
  | _, [], _ => trivial
  | _, _ :: _, ⟨i, e, h1, h2, h3⟩ => ⟨i, e, h1, by omega, h3.up hm⟩
theorem Inc.low {n lo lo' : Nat} (hl : lo' ≤ lo) : ∀ {L : List Int}, Inc n lo L → Inc n lo' L
  | [], _ => trivial
  | _ :: _, ⟨i, e, h1, h2, h3⟩ => ⟨i, e, by omega, h2, h3⟩
theorem Inc.snoc {n : Nat} : ∀ {lo : Nat} {L : List Int}, lo ≤ n → Inc n lo L → Inc (n + 1) lo (L ++ [(n : Int)])
  | lo, [], h, _ => ⟨n, rfl, h, by omega, trivial⟩
  | lo, _ :: _, h, ⟨i, e, h1, h2, h3⟩ => ⟨i, e, h1, by omega, Inc.snoc (by omega) h3⟩
theorem Inc.split {n : Nat} : ∀ {lo : Nat} {L : List Int}, Inc (n + 1) lo L → Inc n lo L ∨ ∃ L', L = L' ++ [(n : Int)] ∧ Inc n lo L'
  | _, [], _ => Or.inl trivial
  | lo, x :: xs, ⟨i, e, h1, h2, h3⟩ => by
    rcases Inc.split h3 with h | ⟨L', e', h⟩
    · by_cases c : i < n
      · exact Or.inl ⟨i, e, h1, c, h⟩
      · have hi : i = n := by omega
        subst hi
        cases xs with
        | nil => exact Or.inr ⟨[], by rw [e]; rfl, trivial⟩
        | cons y ys =>
          obtain ⟨j, _, j1, j2, _⟩ := h
          omega
    · refine Or.inr ⟨x :: L', by rw [e']; rfl, i, e, h1, ?_, h⟩
      subst e'
      by_cases c : i < n
      · exact c
      · exfalso
        cases L' with
        | nil => obtain ⟨j, f, j1, j2, _⟩ := h3; omega
        | cons y ys => obtain ⟨j, f, j1, j2, _⟩ := h; omega
theorem Inc.len {n : Nat} : ∀ {lo : Nat} {L : List Int}, lo ≤ n → Inc n lo L → L.length + lo ≤ n
  | lo, [], h, _ => by simpa using h
  | lo, _ :: _, h, ⟨i, e, h1, h2, h3⟩ => by have := Inc.len (by omega) h3; simp only [List.length_cons]; omega
theorem ow_inc (s : Nat) : ∀ i, Inc i 0 (ow s i)
  | 0 => trivial
  | i + 1 => by
    rw [ow]
    split
    · exact (ow_inc s i).snoc (Nat.zero_le _)
    · exact (ow_inc s i).up (by omega)
theorem ow_all : ∀ n (L : List Int), Inc n 0 L → ∃ s, s < 2 ^ n ∧ ow s n = L
  | 0, L, h => by
    cases L with
    | nil => exact ⟨0, by decide, rfl⟩
    | cons x xs => obtain ⟨i, _, _, h2, _⟩ := h; omega
  | n + 1, L, h => by
    have hp : 2 ^ (n + 1) = 2 ^ n + 2 ^ n := by rw [Nat.pow_succ]; omega
    rcases h.split with g | ⟨L', rfl, g⟩
    · obtain ⟨s, h1, h2⟩ := ow_all n L g
      exact ⟨s, by omega, by rw [ow, Nat.testBit_lt_two_pow h1, if_neg (by simp), h2]⟩
    · obtain ⟨s, h1, h2⟩ := ow_all n L' g
      refine ⟨2 ^ n + s, by omega, ?_⟩
      rw [ow, Nat.testBit_two_pow_add_eq, Nat.testBit_lt_two_pow h1, if_pos (by simp), ow_congr (2 ^ n + s) s n (fun j hj => Nat.testBit_two_pow_add_gt hj s), h2]
def lexL : List Int → List Int → Prop
  | a :: as_, b :: bs => a < b ∨ (a = b ∧ lexL as_ bs)
  | _, _ => False
theorem lexL.irr : ∀ a, ¬ lexL a a
  | [] => fun h => h
  | x :: xs => fun h => by rcases h with h | ⟨_, h⟩; omega; exact lexL.irr xs h
theorem lexL.trans : ∀ {a b c : List Int}, lexL a b → lexL b c → lexL a c
  | [], _, _, h, _ => h.elim
  | _ :: _, [], _, h, _ => h.elim
  | _ :: _, _ :: _, [], _, h => h.elim
  | x :: xs, y :: ys, z :: zs, h, k => by
    rcases h with h | ⟨e, h⟩
    · rcases k with k | ⟨f, k⟩
      · exact Or.inl (by omega)
      · exact Or.inl (by omega)
    · rcases k with k | ⟨f, k⟩
      · exact Or.inl (by omega)
      · exact Or.inr ⟨by omega, h.trans k⟩
theorem lexL.tri : ∀ {a b : List Int}, a.length = b.length → lexL a b ∨ a = b ∨ lexL b a
  | [], [], _ => Or.inr (Or.inl rfl)
  | x :: xs, y :: ys, h => by
    by_cases c : x < y
    · exact Or.inl (Or.inl c)
    · by_cases d : y < x
      · exact Or.inr (Or.inr (Or.inl d))
      · obtain rfl : x = y := by omega
        rcases lexL.tri (a := xs) (b := ys) (by simpa using h) with k | k | k
        · exact Or.inl (Or.inr ⟨rfl, k⟩)
        · exact Or.inr (Or.inl (by rw [k]))
        · exact Or.inr (Or.inr (Or.inr ⟨rfl, k⟩))
def Dom (L M : List Int) : Prop := M.length < L.length ∨ (M.length = L.length ∧ (M = L ∨ lexL L M))
theorem cmpF (x y : Int) : ∃ c, cmp_Compare_int64.f x y = some c ∧ ((c = 0 ∧ x = y) ∨ (c = -1 ∧ x < y) ∨ (c = 1 ∧ y < x)) := by
  have e : ∀ z : Int, cmp_isNaN_int64.f z = some false := fun z => by rw [cmp_isNaN_int64.f]; simp
  rw [cmp_Compare_int64.f, e, e, Option.bind_some, Option.bind_some, if_neg (by simp), if_neg (by simp)]
  by_cases c : x < y
  · exact ⟨-1, by rw [if_pos c], Or.inr (Or.inl ⟨rfl, c⟩)⟩
  · by_cases d : x > y
    · exact ⟨1, by rw [if_neg c, if_pos d], Or.inr (Or.inr ⟨rfl, d⟩)⟩
    · exact ⟨0, by rw [if_neg c, if_neg d], Or.inl ⟨rfl, by omega⟩⟩
theorem cmp_l0 (a b : List Int) (hl : a.length = b.length) (hb : a.length ≤ 1000000) : ∀ d i, a.length - i = d → i ≤ a.length → ∃ c, Ev (fun k => slices_Compare_int64_int64.l0 k a b a (a.length : Int) (i : Int)) c ∧ (c < 0 ↔ lexL (a.drop i) (b.drop i)) := by
  intro d
  induction d with
  | zero =>
    intro i hd hi
    obtain rfl : i = a.length := by omega
    refine ⟨0, Ev.step (f := fun _ => some 0) (fun k => ?_) (Ev.now _), ?_⟩
    · rw [slices_Compare_int64_int64.l0, if_neg (by omega), if_neg (by omega)]
    · rw [List.drop_length, lexL]
      · simp
      · intro _ _ _ _ h; cases h
  | succ d ih =>
    intro i hd hi
    have ha : a.drop i = a.getD i 0 :: a.drop (i + 1) := by rw [List.drop_eq_getElem_cons (by omega), getD_eq a i (by omega)]
    have hbd : b.drop i = b.getD i 0 :: b.drop (i + 1) := by rw [List.drop_eq_getElem_cons (by omega), getD_eq b i (by omega)]
    obtain ⟨c, c1, c2⟩ := cmpF (a.getD i 0) (b.getD i 0)
    have e : ∀ k, slices_Compare_int64_int64.l0 (k + 1) a b a (a.length : Int) (i : Int) = if c = 0 then slices_Compare_int64_int64.l0 k a b a (a.length : Int) ((i + 1 : Nat) : Int) else some c := fun k => by
      rw [slices_Compare_int64_int64.l0, if_pos (by omega), if_pos (by omega), if_pos (by omega), if_neg (by omega), if_pos (by omega), rdN, rdN, c1, Option.bind_some, wN i (by omega)]
    rw [ha, hbd, lexL]
    rcases c2 with ⟨rfl, q⟩ | ⟨rfl, q⟩ | ⟨rfl, q⟩
    · obtain ⟨r, r1, r2⟩ := ih (i + 1) (by omega) (by omega)
      refine ⟨r, Ev.step (fun k => by rw [e, if_pos rfl]) r1, ?_⟩
      rw [r2]
      exact ⟨fun h => Or.inr ⟨q, h⟩, fun h => h.elim (fun h => by omega) (fun h => h.2)⟩
    · exact ⟨-1, Ev.step (f := fun _ => some (-1)) (fun k => by rw [e, if_neg (by omega)]) (Ev.now _), fun _ => Or.inl q, fun _ => by omega⟩
    · exact ⟨1, Ev.step (f := fun _ => some 1) (fun k => by rw [e, if_neg (by omega)]) (Ev.now _), fun h => by omega, fun h => by rcases h with h | ⟨h, _⟩ <;> omega⟩
theorem cmpL (a b : List Int) (hl : a.length = b.length) (hb : a.length ≤ 1000000) : ∃ c, Ev (fun k => slices_Compare_int64_int64.f k a b) c ∧ (c < 0 ↔ lexL a b) := by
  obtain ⟨c, h1, h2⟩ := cmp_l0 a b hl hb _ 0 rfl (Nat.zero_le _)
  exact ⟨c, Ev.congr (fun k => by rw [slices_Compare_int64_int64.f]; rfl) h1, by simpa using h2⟩
section
variable (q : List Int → Option Bool) (acc : List Int → Bool) (n : Nat) (hn : n ≤ 20) (hq : ∀ s, s < 2 ^ n → q (ow s n) = some (acc (ow s n)))
include hn hq
def lgInv (acc : List Int → Bool) (n : Nat) (best : List Int) (s : Nat) : Prop := (best = [] ∨ ∃ t, t < s ∧ best = ow t n ∧ acc best = true) ∧ ∀ t, t < s → acc (ow t n) = true → Dom best (ow t n)
omit hn hq in
theorem Dom.of {L M : List Int} (h : ¬ (L.length < M.length ∨ (M.length = L.length ∧ lexL M L))) : Dom L M := by
  by_cases c : M.length < L.length
  · exact Or.inl c
  · have e : M.length = L.length := by
      by_cases d : L.length < M.length
      · exact absurd (Or.inl d) h
      · omega
    refine Or.inr ⟨e, ?_⟩
    rcases lexL.tri e with k | k | k
    · exact absurd (Or.inr ⟨e, k⟩) h
    · exact Or.inl k
    · exact Or.inr k
omit hn hq in
theorem Dom.better {N L M : List Int} (h : Dom L M) (k : L.length < N.length ∨ (N.length = L.length ∧ lexL N L)) : Dom N M := by
  rcases h with h | ⟨e, h⟩
  · rcases k with k | ⟨f, k⟩
    · exact Or.inl (by omega)
    · exact Or.inl (by omega)
  · rcases k with k | ⟨f, k⟩
    · exact Or.inl (by omega)
    · refine Or.inr ⟨by omega, Or.inr ?_⟩
      rcases h with rfl | h
      · exact k
      · exact k.trans h
omit hq in
theorem lg_l1 (best : List Int) (s : Nat) (hs : s < 2 ^ n) (r : List Int) (x : Int)
    (hr : Ev (fun k => if ((ow s n).length : Int) > (best.length : Int) then ((q (ow s n)).bind fun t => (if t = true then (impl_longest.l0 q k (n : Int) (ow s n) ((2 ^ n : Nat) : Int) (wrap64 ((s : Int) + 1))) else (impl_longest.l0 q k (n : Int) best ((2 ^ n : Nat) : Int) (wrap64 ((s : Int) + 1)))))
      else (if ((ow s n).length : Int) = (best.length : Int) then ((slices_Compare_int64_int64.f k (ow s n) best).bind fun c => (if c < 0 then ((q (ow s n)).bind fun t => (if t = true then (impl_longest.l0 q k (n : Int) (ow s n) ((2 ^ n : Nat) : Int) (wrap64 ((s : Int) + 1))) else (impl_longest.l0 q k (n : Int) best ((2 ^ n : Nat) : Int) (wrap64 ((s : Int) + 1))))) else (impl_longest.l0 q k (n : Int) best ((2 ^ n : Nat) : Int) (wrap64 ((s : Int) + 1))))) else (impl_longest.l0 q k (n : Int) best ((2 ^ n : Nat) : Int) (wrap64 ((s : Int) + 1))))) r) :
    ∀ d i, n - i = d → i ≤ n → Ev (fun k => impl_longest.l1 q k (n : Int) best (s : Int) (ow s i) ((2 ^ n : Nat) : Int) (s : Int) (n : Int) (i : Int)) r := by
  have hp := Nat.pow_le_pow_right (show 0 < 2 by omega) hn
  intro d
  induction d with
  | zero =>
    intro i hd hi
    obtain rfl : i = n := by omega
    refine Ev.step (fun k => ?_) hr
    rw [impl_longest.l1, if_neg (by omega)]
  | succ d ih =>
    intro i hd hi
    have hl := ow_len s i
    refine Ev.step (fun k => ?_) (ih (i + 1) (by omega) (by omega))
    rw [impl_longest.l1, if_pos (by omega), if_pos (by omega), ow, wN i (by omega)]
    by_cases c : s.testBit i = true
    · rw [if_pos ((bitT s i (by omega) (by omega)).2 c), if_pos (by omega), if_pos c]
    · rw [if_neg (fun h => c ((bitT s i (by omega) (by omega)).1 h)), if_neg c]
theorem lg_l0 : ∀ d s (best : List Int), 2 ^ n - s = d → s ≤ 2 ^ n → best.length ≤ n → lgInv acc n best s → ∃ r, Ev (fun k => impl_longest.l0 q k (n : Int) best ((2 ^ n : Nat) : Int) (s : Int)) r ∧ lgInv acc n r (2 ^ n) := by
  have hp := Nat.pow_le_pow_right (show 0 < 2 by omega) hn
  intro d
  induction d with
  | zero =>
    intro s best hd hs hb hi
    obtain rfl : s = 2 ^ n := by omega
    refine ⟨best, Ev.step (f := fun _ => some best) (fun k => ?_) (Ev.now _), hi⟩
    rw [impl_longest.l0, if_neg (by omega)]
  | succ d ih =>
    intro s best hd hs hb hi
    have hl := ow_len s n
    have hqs := hq s (by omega)
    have keep : (acc (ow s n) = true → Dom best (ow s n)) → lgInv acc n best (s + 1) := fun hD => by
      refine ⟨?_, fun t ht ha => ?_⟩
      · rcases hi.1 with h | ⟨t, t1, t2⟩
        · exact Or.inl h
        · exact Or.inr ⟨t, by omega, t2⟩
      · by_cases e : t = s
        · subst e; exact hD ha
        · exact hi.2 t (by omega) ha
    have put : acc (ow s n) = true → (best.length < (ow s n).length ∨ ((ow s n).length = best.length ∧ lexL (ow s n) best)) → lgInv acc n (ow s n) (s + 1) := fun ha hU => by
      refine ⟨Or.inr ⟨s, by omega, rfl, ha⟩, fun t ht ha' => ?_⟩
      by_cases e : t = s
      · subst e; exact Or.inr ⟨rfl, Or.inl rfl⟩
      · exact (hi.2 t (by omega) ha').better hU
    have start : ∀ r, (Ev (fun k => if ((ow s n).length : Int) > (best.length : Int) then ((q (ow s n)).bind fun t => (if t = true then (impl_longest.l0 q k (n : Int) (ow s n) ((2 ^ n : Nat) : Int) (wrap64 ((s : Int) + 1))) else (impl_longest.l0 q k (n : Int) best ((2 ^ n : Nat) : Int) (wrap64 ((s : Int) + 1)))))
      else (if ((ow s n).length : Int) = (best.length : Int) then ((slices_Compare_int64_int64.f k (ow s n) best).bind fun c => (if c < 0 then ((q (ow s n)).bind fun t => (if t = true then (impl_longest.l0 q k (n : Int) (ow s n) ((2 ^ n : Nat) : Int) (wrap64 ((s : Int) + 1))) else (impl_longest.l0 q k (n : Int) best ((2 ^ n : Nat) : Int) (wrap64 ((s : Int) + 1))))) else (impl_longest.l0 q k (n : Int) best ((2 ^ n : Nat) : Int) (wrap64 ((s : Int) + 1))))) else (impl_longest.l0 q k (n : Int) best ((2 ^ n : Nat) : Int) (wrap64 ((s : Int) + 1))))) r) →
        Ev (fun k => impl_longest.l0 q k (n : Int) best ((2 ^ n : Nat) : Int) (s : Int)) r := fun r hr =>
      Ev.step (fun k => by rw [impl_longest.l0, if_pos (by omega)]; rfl) (lg_l1 q n hn best s (by omega) r 0 hr _ 0 rfl (Nat.zero_le _))
    rw [wN s (by omega)] at start
    rw [hqs] at start
    simp only [Option.bind_some] at start
    by_cases c1 : best.length < (ow s n).length
    · by_cases c2 : acc (ow s n) = true
      · obtain ⟨r, r1, r2⟩ := ih (s + 1) (ow s n) (by omega) (by omega) hl (put c2 (Or.inl c1))
        exact ⟨r, start r (Ev.congr (fun k => by rw [if_pos (by omega), if_pos c2]) r1), r2⟩
      · obtain ⟨r, r1, r2⟩ := ih (s + 1) best (by omega) (by omega) hb (keep (fun h => absurd h c2))
        exact ⟨r, start r (Ev.congr (fun k => by rw [if_pos (by omega), if_neg c2]) r1), r2⟩
    · by_cases c3 : (ow s n).length = best.length
      · obtain ⟨c, e1, e2⟩ := cmpL (ow s n) best c3 (by omega)
        obtain ⟨K1, e1⟩ := EvG e1
        by_cases c4 : c < 0
        · by_cases c2 : acc (ow s n) = true
          · obtain ⟨r, r1, r2⟩ := ih (s + 1) (ow s n) (by omega) (by omega) hl (put c2 (Or.inr ⟨c3, e2.1 c4⟩))
            obtain ⟨K2, r1⟩ := EvG r1
            exact ⟨r, start r (EvI (K1 + K2) fun k hk => by rw [if_neg (by omega), if_pos (by omega), e1 k (by omega), Option.bind_some, if_pos c4, if_pos c2]; exact r1 k (by omega)), r2⟩
          · obtain ⟨r, r1, r2⟩ := ih (s + 1) best (by omega) (by omega) hb (keep (fun h => absurd h c2))
            obtain ⟨K2, r1⟩ := EvG r1
            exact ⟨r, start r (EvI (K1 + K2) fun k hk => by rw [if_neg (by omega), if_pos (by omega), e1 k (by omega), Option.bind_some, if_pos c4, if_neg c2]; exact r1 k (by omega)), r2⟩
        · obtain ⟨r, r1, r2⟩ := ih (s + 1) best (by omega) (by omega) hb (keep (fun _ => Dom.of (fun h => h.elim (fun h => c1 h) (fun h => c4 (e2.2 h.2)))))
          obtain ⟨K2, r1⟩ := EvG r1
          exact ⟨r, start r (EvI (K1 + K2) fun k hk => by rw [if_neg (by omega), if_pos (by omega), e1 k (by omega), Option.bind_some, if_neg c4]; exact r1 k (by omega)), r2⟩
      · obtain ⟨r, r1, r2⟩ := ih (s + 1) best (by omega) (by omega) hb (keep (fun _ => Dom.of (fun h => h.elim (fun h => c1 h) (fun h => c3 h.1))))
        exact ⟨r, start r (Ev.congr (fun k => by rw [if_neg (by omega), if_neg (by omega)]) r1), r2⟩
theorem longestF (D : List Int) (hD : Inc n 0 D) (hA : acc D = true) (hB : ∀ M, Inc n 0 M → acc M = true → Dom D M) : Ev (fun k => impl_longest.f q k (n : Int)) D := by
  obtain ⟨r, r1, r2, r3⟩ := lg_l0 q acc n hn hq _ 0 [] rfl (Nat.zero_le _) (Nat.zero_le _) ⟨Or.inl rfl, fun t h => absurd h (Nat.not_lt_zero _)⟩
  obtain ⟨s, s1, s2⟩ := ow_all n D hD
  have h1 := r3 s s1 (by rw [s2]; exact hA)
  rw [s2] at h1
  have e : r = D := by
    rcases r2 with rfl | ⟨t, t1, rfl, t3⟩
    · rcases h1 with h | ⟨h, _⟩
      · simp at h
      · exact (List.length_eq_zero_iff.1 h).symm
    · have h2 := hB _ (ow_inc t n) t3
      rcases h1 with h | ⟨_, h⟩
      · rcases h2 with k | ⟨k, _⟩ <;> omega
      · rcases h with h | h
        · exact h.symm
        · rcases h2 with k | ⟨_, k⟩
          · omega
          · rcases k with k | k
            · exact k
            · exact absurd (h.trans k) (lexL.irr _)
  subst e
  exact Ev.congr (fun k => by rw [impl_longest.f, if_pos (by omega), shl1 n hn]; rfl) r1
end
end Go.Proofs.Ytipdmnibjkdpcaa.Pure

namespace Go.Proofs.Ytipdmnibjkdpcaa.Pure
open Go.RowKit Go.Proofs.Ytipdmnibjkdpcaa.P Go.Proofs.YtipdmnibjkdpcaaW.PrintWords Go.Proofs.YtipdmnibjkdpcaaW.PrintLast
set_option linter.unusedVariables false
set_option linter.unusedSimpArgs false
def firstL : List Int → List (List Int) → List Int
  | b, [] => b
  | b, x :: xs => if b.length < x.length then firstL x xs else firstL b xs
theorem firstL_mem : ∀ (b : List Int) (l : List (List Int)), firstL b l = b ∨ firstL b l ∈ l
  | b, [] => .inl rfl
  | b, x :: xs => by
    rw [firstL]
    split
    · rcases firstL_mem x xs with h | h
      · exact .inr (by rw [h]; exact List.mem_cons_self ..)
      · exact .inr (List.mem_cons_of_mem _ h)
    · rcases firstL_mem b xs with h | h
      · exact .inl h
      · exact .inr (List.mem_cons_of_mem _ h)
def Lay (a b : List Int) : Prop := a.length = b.length → lexL a b
theorem firstL_dom : ∀ (b : List Int) (l : List (List Int)), (∀ x ∈ l, Lay b x) → l.Pairwise Lay → Dom (firstL b l) b ∧ ∀ x ∈ l, Dom (firstL b l) x
  | b, [], _, _ => ⟨.inr ⟨rfl, .inl rfl⟩, fun x hx => by cases hx⟩
  | b, x :: xs, h, hp => by
    obtain ⟨h1, h2⟩ := List.pairwise_cons.1 hp
    have hbx := h x (List.mem_cons_self ..)
    have hb : ∀ y ∈ xs, Lay b y := fun y hy => h y (List.mem_cons_of_mem _ hy)
    rw [firstL]
    by_cases c : b.length < x.length
    · rw [if_pos c]
      obtain ⟨d1, d2⟩ := firstL_dom x xs h1 h2
      refine ⟨?_, fun y hy => ?_⟩
      · rcases d1 with d | ⟨d, _⟩
        · exact .inl (by omega)
        · exact .inl (by omega)
      · rcases List.mem_cons.1 hy with rfl | hy
        · exact d1
        · exact d2 y hy
    · rw [if_neg c]
      obtain ⟨d1, d2⟩ := firstL_dom b xs hb h2
      refine ⟨d1, fun y hy => ?_⟩
      rcases List.mem_cons.1 hy with rfl | hy
      · have hy1 : Dom b y := by
          by_cases e : b.length = y.length
          · exact .inr ⟨e.symm, .inr (hbx e)⟩
          · exact .inl (by omega)
        rcases d1 with d | ⟨d, d'⟩
        · rcases hy1 with g | ⟨g, _⟩
          · exact .inl (by omega)
          · exact .inl (by omega)
        · rcases hy1 with g | ⟨g, g'⟩
          · exact .inl (by omega)
          · refine .inr ⟨by omega, ?_⟩
            rcases d' with e | d'
            · rw [← e]; exact g'
            · rcases g' with e | g'
              · rw [e]; exact .inr d'
              · exact .inr (d'.trans g')
      · exact d2 y hy
section
variable (fr : List Int → Nat → Bool)
def apL : Nat → List Int → Nat → List (List Int)
  | 0, _, _ => []
  | d + 1, b, i => (if fr b i = true then (b ++ [(i : Int)]) :: apL d (b ++ [(i : Int)]) (i + 1) else []) ++ apL d b (i + 1)
def okF : List Int → List Int → Bool
  | _, [] => true
  | b, x :: xs => fr b x.toNat && okF (b ++ [x]) xs
theorem apL_form (n : Nat) : ∀ d b i, i + d = n → ∀ x ∈ apL fr d b i, ∃ M, x = b ++ M ∧ M ≠ [] ∧ Inc n i M ∧ okF fr b M = true
  | 0, b, i, _, x, hx => by cases hx
  | d + 1, b, i, hn, x, hx => by
    rw [apL] at hx
    rcases List.mem_append.1 hx with h | h
    · split at h
      case isFalse => cases h
      case isTrue c =>
      rcases List.mem_cons.1 h with rfl | h
      · exact ⟨[(i : Int)], rfl, by simp, ⟨i, rfl, Nat.le_refl _, by omega, trivial⟩, by rw [okF, Int.toNat_natCast, c]; rfl⟩
      · obtain ⟨M, e, h1, h2, h3⟩ := apL_form n d _ (i + 1) (by omega) x h
        exact ⟨(i : Int) :: M, by rw [e, List.append_assoc]; rfl, by simp, ⟨i, rfl, Nat.le_refl _, by omega, h2⟩, by rw [okF, Int.toNat_natCast, c, h3]; rfl⟩
    · obtain ⟨M, e, h1, h2, h3⟩ := apL_form n d b (i + 1) (by omega) x h
      exact ⟨M, e, h1, h2.low (by omega), h3⟩
theorem apL_all (n : Nat) : ∀ d b i, i + d = n → ∀ M, M ≠ [] → Inc n i M → okF fr b M = true → b ++ M ∈ apL fr d b i
  | 0, b, i, hn, M, hM, hi, _ => by
    cases M with
    | nil => exact absurd rfl hM
    | cons x xs => obtain ⟨j, _, h1, h2, _⟩ := hi; omega
  | d + 1, b, i, hn, M, hM, hi, ho => by
    cases M with
    | nil => exact absurd rfl hM
    | cons x xs =>
      obtain ⟨j, rfl, h1, h2, h3⟩ := hi
      rw [apL]
      by_cases e : j = i
      · subst e
        rw [okF, Int.toNat_natCast, Bool.and_eq_true] at ho
        rw [if_pos ho.1]
        refine List.mem_append_left _ ?_
        cases xs with
        | nil => exact List.mem_cons_self ..
        | cons y ys =>
          have := apL_all n d (b ++ [(j : Int)]) (j + 1) (by omega) (y :: ys) (by simp) h3 ho.2
          rw [List.append_assoc] at this
          exact List.mem_cons_of_mem _ this
      · exact List.mem_append_right _ (apL_all n d b (i + 1) (by omega) _ (by simp) ⟨j, rfl, by omega, h2, h3⟩ ho)
theorem lexL_app : ∀ (b : List Int) {x y : List Int}, lexL x y → lexL (b ++ x) (b ++ y)
  | [], _, _, h => h
  | _ :: bs, _, _, h => .inr ⟨rfl, lexL_app bs h⟩
theorem apL_lay (n : Nat) : ∀ d b i, i + d = n → (apL fr d b i).Pairwise Lay
  | 0, b, i, _ => .nil
  | d + 1, b, i, hn => by
    rw [apL]
    have hB := apL_form fr n d b (i + 1) (by omega)
    have far : ∀ (M : List Int) (y : List Int), y ∈ apL fr d b (i + 1) → Lay (b ++ (i : Int) :: M) y := fun M y hy hl => by
      obtain ⟨M', rfl, h1, h2, _⟩ := hB y hy
      refine lexL_app b ?_
      cases M' with
      | nil => exact absurd rfl h1
      | cons z zs =>
        obtain ⟨j, rfl, j1, _, _⟩ := h2
        exact .inl (by omega)
    split
    · rw [List.cons_append, List.pairwise_cons]
      refine ⟨fun y hy => ?_, List.pairwise_append.2 ⟨apL_lay n d _ (i + 1) (by omega), apL_lay n d b (i + 1) (by omega), fun x hx y hy => ?_⟩⟩
      · rcases List.mem_append.1 hy with h | h
        · intro hl
          obtain ⟨M, rfl, h1, _, _⟩ := apL_form fr n d _ (i + 1) (by omega) y h
          exfalso
          have : M.length = 0 := by
            simp only [List.length_append, List.length_cons, List.length_nil] at hl
            omega
          exact h1 (List.length_eq_zero_iff.1 this)
        · exact far [] y h
      · obtain ⟨M, rfl, _, _, _⟩ := apL_form fr n d _ (i + 1) (by omega) x hx
        rw [List.append_assoc]
        exact far M y hy
    · rw [List.nil_append]
      exact apL_lay n d b (i + 1) (by omega)
theorem apL_best (n : Nat) : Inc n 0 (firstL [] (apL fr n [] 0)) ∧ okF fr [] (firstL [] (apL fr n [] 0)) = true ∧ ∀ M, Inc n 0 M → okF fr [] M = true → Dom (firstL [] (apL fr n [] 0)) M := by
  have hf := apL_form fr n n [] 0 (by omega)
  obtain ⟨d1, d2⟩ := firstL_dom [] (apL fr n [] 0) (fun x hx hl => by
    obtain ⟨M, rfl, h1, _, _⟩ := hf x hx
    exfalso
    exact h1 (List.length_eq_zero_iff.1 (by have h_ := hl; simp only [List.length_append, List.length_nil] at h_; omega))) (apL_lay fr n n [] 0 (by omega))
  refine ⟨?_, ?_, fun M hM ho => ?_⟩
  · rcases firstL_mem [] (apL fr n [] 0) with h | h
    · rw [h]; exact trivial
    · obtain ⟨M, e, _, h2, _⟩ := hf _ h
      rw [e]; exact h2
  · rcases firstL_mem [] (apL fr n [] 0) with h | h
    · rw [h]; rfl
    · obtain ⟨M, e, _, _, h3⟩ := hf _ h
      rw [e]; exact h3
  · by_cases e : M = []
    · subst e; exact d1
    · have := apL_all fr n n [] 0 (by omega) M e hM ho
      exact d2 M this
end
end Go.Proofs.Ytipdmnibjkdpcaa.Pure

namespace Go.Proofs.Ytipdmnibjkdpcaa.Pure
open Go.RowKit Go.Proofs.Ytipdmnibjkdpcaa.P Go.Proofs.YtipdmnibjkdpcaaW.PrintWords Go.Proofs.YtipdmnibjkdpcaaW.PrintLast
set_option linter.unusedVariables false
set_option linter.unusedSimpArgs false
noncomputable def frA (l : List S64) (b : List Int) (i : Nat) : Bool := b.all fun x => !nestS (l.getD i z64) (l.getD x.toNat z64)
def InR (n : Nat) (b : List Int) : Prop := ∀ j, j < b.length → 0 ≤ b.getD j 0 ∧ b.getD j 0 < (n : Int)
theorem InR.snoc {n : Nat} {b : List Int} (h : InR n b) {i : Nat} (hi : i < n) : InR n (b ++ [(i : Int)]) := by
  intro j hj
  rw [List.length_append] at hj
  simp only [List.length_cons, List.length_nil] at hj
  by_cases c : j < b.length
  · rw [List.getD_eq_getElem?_getD, List.getElem?_append_left c, ← List.getD_eq_getElem?_getD]; exact h j c
  · obtain rfl : j = b.length := by omega
    rw [List.getD_eq_getElem?_getD, List.getElem?_append_right (Nat.le_refl _)]
    simp; omega
theorem drop1 (b : List Int) (j : Nat) (h : j < b.length) : b.drop j = b.getD j 0 :: b.drop (j + 1) := by rw [List.drop_eq_getElem_cons h, getD_eq b j h]
theorem apL_len (fr : List Int → Nat → Bool) : ∀ d b i, (apL fr d b i).length + 1 ≤ 2 ^ d
  | 0, _, _ => by simp [apL]
  | d + 1, b, i => by
    have h1 := apL_len fr d (b ++ [(i : Int)]) (i + 1)
    have h2 := apL_len fr d b (i + 1)
    rw [apL, Nat.pow_succ, List.length_append]
    split
    · simp only [List.length_cons]; omega
    · simp only [List.length_nil]; omega
theorem sA_l1 (l : List S64) (hl : l.length ≤ 10) (b : List Int) (hb : b.length ≤ 10) (hr : InR l.length b) (i : Nat) (hi : i < l.length) (out : List (List Int)) (r : List (List Int))
    (hT : frA l b i = true → Ev (fun k => ((spec_l00Own.f b).bind fun t364 => (if t364.length < 17592186044416 then ((spec_l02Apart.f k l (t364 ++ [(i : Int)]) (wrap64 ((i : Int) + 1))).bind fun t370 => (if out.length + t370.length < 5864062014805 then (spec_l02Apart.l0 k l b (out ++ t370) (wrap64 ((i : Int) + 1))) else (none))) else (none)))) r)
    (hF : frA l b i = false → Ev (fun k => spec_l02Apart.l0 k l b out (wrap64 ((i : Int) + 1))) r) :
    ∀ d j (fr : Bool), b.length - j = d → j ≤ b.length → (fr && (b.drop j).all fun x => !nestS (l.getD i z64) (l.getD x.toNat z64)) = frA l b i → Ev (fun k => spec_l02Apart.l1 k l b out (i : Int) fr (j : Int)) r := by
  intro d
  induction d with
  | zero =>
    intro j fr hd hj he
    obtain rfl : j = b.length := by omega
    rw [List.drop_length, List.all_nil, Bool.and_true] at he
    cases fr with
    | true => exact Ev.step (fun k => by rw [spec_l02Apart.l1, if_neg (by omega), if_pos rfl]) (hT he.symm)
    | false => exact Ev.step (fun k => by rw [spec_l02Apart.l1, if_neg (by omega), if_neg (by decide)]) (hF he.symm)
  | succ d ih =>
    intro j fr hd hj he
    have hb0 := hr j (by omega)
    rw [drop1 b j (by omega), List.all_cons] at he
    cases fr with
    | false => exact Ev.step (fun k => by rw [spec_l02Apart.l1, if_pos (by omega), if_neg (by decide), wN j (by omega)]) (ih (j + 1) false (by omega) (by omega) (by rw [Bool.false_and] at he ⊢; exact he))
    | true =>
      rw [Bool.true_and] at he
      obtain ⟨K1, h1⟩ := EvG (insS_s (l.getD i z64) (l.getD (b.getD j 0).toNat z64))
      obtain ⟨K2, h2⟩ := EvG (insS_s (l.getD (b.getD j 0).toNat z64) (l.getD i z64))
      obtain ⟨K3, h3⟩ := EvG (ih (j + 1) (!nestS (l.getD i z64) (l.getD (b.getD j 0).toNat z64)) (by omega) (by omega) he)
      refine EvI (K1 + K2 + K3 + 1) fun k hk => ?_
      obtain ⟨m, rfl⟩ : ∃ m, k = m + 1 := ⟨k - 1, by omega⟩
      have h3' := h3 m (by omega)
      rw [spec_l02Apart.l1, if_pos (by omega), if_pos rfl, if_pos (by omega), if_pos (by omega), if_pos (by omega), rdN, if_pos (by omega), if_pos (by omega), rdB, rdB, Int.toNat_natCast, h1 m (by omega), Option.bind_some, wN j (by omega)]
      rw [nestS] at h3'
      cases hq : insS (l.getD i z64) (l.getD (b.getD j 0).toNat z64) with
      | true => rw [if_pos rfl]; rw [hq] at h3'; exact h3'
      | false => rw [if_neg (by decide), h2 m (by omega), Option.bind_some]; rw [hq, Bool.false_or] at h3'; exact h3'
theorem sA (l : List S64) (hl : l.length ≤ 10) : ∀ d, (∀ i b (out : List (List Int)), i + d = l.length → InR l.length b → b.length ≤ i → out.length + 2 ^ d ≤ 1000000 → Ev (fun k => spec_l02Apart.l0 k l b out (i : Int)) (out ++ apL (frA l) d b i)) ∧
    (∀ i b, i + d = l.length → InR l.length b → b.length ≤ i → Ev (fun k => spec_l02Apart.f k l b (i : Int)) (b :: apL (frA l) d b i)) := by
  intro d
  induction d with
  | zero =>
    have h1 : ∀ i b (out : List (List Int)), i + 0 = l.length → Ev (fun k => spec_l02Apart.l0 k l b out (i : Int)) (out ++ apL (frA l) 0 b i) := fun i b out hi => by
      rw [apL, List.append_nil]
      exact Ev.step (f := fun _ => some out) (fun k => by rw [spec_l02Apart.l0, if_neg (by omega)]) (Ev.now _)
    refine ⟨fun i b out hi _ _ _ => h1 i b out hi, fun i b hi hr hb => ?_⟩
    refine Ev.step (fun k => ?_) (h1 i b [b] hi)
    rw [spec_l02Apart.f, ownF b (by omega), Option.bind_some]
  | succ d ih =>
    obtain ⟨ih1, ih2⟩ := ih
    have h1 : ∀ i b (out : List (List Int)), i + (d + 1) = l.length → InR l.length b → b.length ≤ i → out.length + 2 ^ (d + 1) ≤ 1000000 → Ev (fun k => spec_l02Apart.l0 k l b out (i : Int)) (out ++ apL (frA l) (d + 1) b i) := fun i b out hi hr hb ho => by
      rw [Nat.pow_succ] at ho
      have hlen := apL_len (frA l) d (b ++ [(i : Int)]) (i + 1)
      refine Ev.step (fun k => ?_) (sA_l1 l hl b (by omega) hr i (by omega) out _ (fun hf => ?_) (fun hf => ?_) _ 0 true rfl (Nat.zero_le _) (by rw [Bool.true_and]; rfl))
      · rw [spec_l02Apart.l0, if_pos (by omega)]
        rfl
      · obtain ⟨K1, g1⟩ := EvG (ih2 (i + 1) (b ++ [(i : Int)]) (by omega) (hr.snoc (by omega)) (by rw [List.length_append]; simp; omega))
        obtain ⟨K2, g2⟩ := EvG (ih1 (i + 1) b (out ++ ((b ++ [(i : Int)]) :: apL (frA l) d (b ++ [(i : Int)]) (i + 1))) (by omega) hr (by omega) (by rw [List.length_append, List.length_cons]; omega))
        refine EvI (K1 + K2) fun k hk => ?_
        rw [ownF b (by omega), Option.bind_some, if_pos (by omega), wN i (by omega), g1 k (by omega), Option.bind_some, if_pos (by rw [List.length_cons]; omega), g2 k (by omega), apL, if_pos hf, List.append_assoc]
      · rw [apL, if_neg (by rw [hf]; decide), List.nil_append, wN i (by omega)]
        exact ih1 (i + 1) b out (by omega) hr (by omega) (by omega)
    refine ⟨h1, fun i b hi hr hb => ?_⟩
    have hp := Nat.pow_le_pow_right (show 0 < 2 by omega) (show d + 1 ≤ 10 by omega)
    refine Ev.step (fun k => ?_) (h1 i b [b] hi hr hb (by rw [List.length_singleton]; omega))
    rw [spec_l02Apart.f, ownF b (by omega), Option.bind_some]
theorem firstF (all : List (List Int)) (hn : all.length ≤ 1000000) : ∀ d i (best : List Int), all.length - i = d → i ≤ all.length → Ev (fun k => spec_LargestApart.l0 k all best (i : Int)) (firstL best (all.drop i), 0) := by
  intro d
  induction d with
  | zero =>
    intro i best hd hi
    obtain rfl : i = all.length := by omega
    rw [List.drop_length]
    exact Ev.step (f := fun _ => some (best, 0)) (fun k => by rw [spec_LargestApart.l0, if_neg (by omega)]) (Ev.now _)
  | succ d ih =>
    intro i best hd hi
    have e : all.drop i = all.getD i [] :: all.drop (i + 1) := by
      rw [List.drop_eq_getElem_cons (by omega), List.getD_eq_getElem?_getD, List.getElem?_eq_getElem (by omega)]; rfl
    rw [e, firstL]
    by_cases c : best.length < (all.getD i []).length
    · rw [if_pos c]
      exact Ev.step (fun k => by rw [spec_LargestApart.l0, if_pos (by omega), if_pos (by omega), rdL1, if_pos (by omega), wN i (by omega)]) (ih (i + 1) _ (by omega) (by omega))
    · rw [if_neg c]
      exact Ev.step (fun k => by rw [spec_LargestApart.l0, if_pos (by omega), if_pos (by omega), rdL1, if_neg (by omega), wN i (by omega)]) (ih (i + 1) _ (by omega) (by omega))
theorem iA_l1 (l : List S64) (hl : l.length ≤ 10) (y : List Int) (hy : y.length ≤ 10) (hr : InR l.length y) (i : Nat) (hi : i < y.length) (r : Bool)
    (hT : frA l (y.take i) (y.getD i 0).toNat = true → Ev (fun k => impl_LargestApart_1.l0 k y l y (y.length : Int) (wrap64 ((i : Int) + 1))) r) (hF : frA l (y.take i) (y.getD i 0).toNat = false → r = false) :
    ∀ d j, i - j = d → j ≤ i → ((y.take i).drop j).all (fun x => !nestS (l.getD (y.getD i 0).toNat z64) (l.getD x.toNat z64)) = frA l (y.take i) (y.getD i 0).toNat → Ev (fun k => impl_LargestApart_1.l1 k y l (y.getD i 0) y (y.length : Int) (i : Int) (y.take i) ((y.take i).length : Int) (j : Int)) r := by
  have ht : (y.take i).length = i := by rw [List.length_take]; omega
  intro d
  induction d with
  | zero =>
    intro j hd hj he
    obtain rfl : j = i := by omega
    rw [List.drop_of_length_le (by omega), List.all_nil] at he
    exact Ev.step (fun k => by rw [impl_LargestApart_1.l1, if_neg (by omega)]) (hT he.symm)
  | succ d ih =>
    intro j hd hj he
    have e1 : (y.take i).getD j 0 = y.getD j 0 := by rw [List.getD_eq_getElem?_getD, List.getElem?_take_of_lt (by omega), ← List.getD_eq_getElem?_getD]
    have hb0 := hr j (by omega)
    have hb1 := hr i (by omega)
    rw [drop1 (y.take i) j (by omega), List.all_cons, e1] at he
    obtain ⟨K1, h1⟩ := EvG (nestF (l.getD (y.getD i 0).toNat z64) (l.getD (y.getD j 0).toNat z64))
    have e : ∀ k, K1 ≤ k → impl_LargestApart_1.l1 (k + 1) y l (y.getD i 0) y (y.length : Int) (i : Int) (y.take i) ((y.take i).length : Int) (j : Int) = if nestS (l.getD (y.getD i 0).toNat z64) (l.getD (y.getD j 0).toNat z64) = true then some false else impl_LargestApart_1.l1 k y l (y.getD i 0) y (y.length : Int) (i : Int) (y.take i) ((y.take i).length : Int) ((j + 1 : Nat) : Int) := fun k hk => by
      rw [impl_LargestApart_1.l1, if_pos (by omega), if_pos (by omega), if_pos (by omega), if_pos (by omega), if_pos (by omega), rdN, e1, if_pos (by omega), if_pos (by omega), rdB, rdB, h1 k hk, Option.bind_some, wN j (by omega)]
    cases hq : nestS (l.getD (y.getD i 0).toNat z64) (l.getD (y.getD j 0).toNat z64) with
    | true =>
      rw [hq, Bool.not_true, Bool.false_and] at he
      rw [hF he.symm]
      refine EvI (K1 + 1) fun k hk => ?_
      obtain ⟨m, rfl⟩ : ∃ m, k = m + 1 := ⟨k - 1, by omega⟩
      rw [e m (by omega), hq, if_pos rfl]
    | false =>
      rw [hq, Bool.not_false, Bool.true_and] at he
      obtain ⟨K2, h2⟩ := EvG (ih (j + 1) (by omega) (by omega) he)
      refine EvI (K1 + K2 + 1) fun k hk => ?_
      obtain ⟨m, rfl⟩ : ∃ m, k = m + 1 := ⟨k - 1, by omega⟩
      rw [e m (by omega), hq, if_neg (by decide)]
      exact h2 m (by omega)
theorem iA_l0 (l : List S64) (hl : l.length ≤ 10) (y : List Int) (hy : y.length ≤ 10) (hr : InR l.length y) : ∀ d i, y.length - i = d → i ≤ y.length → Ev (fun k => impl_LargestApart_1.l0 k y l y (y.length : Int) (i : Int)) (okF (frA l) (y.take i) (y.drop i)) := by
  intro d
  induction d with
  | zero =>
    intro i hd hi
    obtain rfl : i = y.length := by omega
    rw [List.drop_length, okF]
    exact Ev.step (f := fun _ => some true) (fun k => by rw [impl_LargestApart_1.l0, if_neg (by omega)]) (Ev.now _)
  | succ d ih =>
    intro i hd hi
    have hb1 := hr i (by omega)
    have e : okF (frA l) (y.take i) (y.drop i) = (frA l (y.take i) (y.getD i 0).toNat && okF (frA l) (y.take (i + 1)) (y.drop (i + 1))) := by
      rw [drop1 y i (by omega), okF, List.take_add_one, List.getElem?_eq_getElem (by omega), getD_eq y i (by omega)]; rfl
    rw [e]
    refine Ev.step (fun k => ?_) (iA_l1 l hl y hy hr i (by omega) _ (fun h => ?_) (fun h => ?_) _ 0 rfl (Nat.zero_le _) rfl)
    · rw [impl_LargestApart_1.l0, if_pos (by omega), if_pos (by omega), if_pos (by omega), if_pos (by omega), Int.toNat_natCast, rdN]
      rfl
    · rw [h, Bool.true_and, wN i (by omega)]
      exact ih (i + 1) (by omega) (by omega)
    · rw [h, Bool.false_and]
theorem Inc.inR {n : Nat} : ∀ {lo : Nat} {L : List Int}, Inc n lo L → InR n L
  | _, [], _ => fun j h => absurd h (Nat.not_lt_zero _)
  | lo, _ :: _, ⟨i, e, h1, h2, h3⟩ => fun j hj => by
    cases j with
    | zero => rw [List.getD_cons_zero, e]; omega
    | succ j => rw [List.getD_cons_succ]; exact Inc.inR h3 j (by simpa using hj)
theorem apartBoth (l : List S64) (hb : l.length ≤ 1048576) (hw : wfS l) : ∃ r : List Int × Int, Ev (fun k => impl_LargestApart.f k l) r ∧ Ev (fun k => spec_LargestApart.f k l) r ∧ r.1.length ≤ 1000 := by
  obtain ⟨K1, cI⟩ := EvG (codeI l hb hw)
  obtain ⟨K2, cS⟩ := EvG (codeS l hb hw)
  by_cases h : boxesOk l = true
  · have h' := h
    rw [boxesOk, Bool.and_eq_true] at h
    have hlen : l.length ≤ 10 := of_decide_eq_true h.1
    obtain ⟨p1, p2, p3⟩ := apL_best (frA l) l.length
    have hlenD := Inc.len (Nat.zero_le _) p1
    have hsz := apL_len (frA l) l.length [] 0
    have hp := Nat.pow_le_pow_right (show 0 < 2 by omega) hlen
    refine ⟨(firstL [] (apL (frA l) l.length [] 0), 0), ?_, ?_, by simp only; omega⟩
    · obtain ⟨K3, h3⟩ := evAll (2 ^ l.length) (fun k s => impl_LargestApart_1.f k (ow s l.length) l) (fun s => okF (frA l) [] (ow s l.length)) (fun s _ => by
        have hi := ow_inc s l.length
        have := ow_len s l.length
        exact iA_l0 l hlen (ow s l.length) (by omega) hi.inR _ 0 rfl (Nat.zero_le _))
      have hq : ∀ s, s < 2 ^ l.length → (fun y_ => impl_LargestApart_1.f K3 y_ l) (ow s l.length) = some (okF (frA l) [] (ow s l.length)) := fun s hs => h3 K3 (Nat.le_refl _) s hs
      obtain ⟨K4, h4⟩ := EvG (longestF (fun y_ => impl_LargestApart_1.f K3 y_ l) (okF (frA l) []) l.length (by omega) hq _ p1 p2 p3)
      have stay : ∀ (q : List Int → Option Bool) (j m : Nat), impl_longest.f q m (l.length : Int) = some (firstL [] (apL (frA l) l.length [] 0)) → impl_longest.f q (m + j) (l.length : Int) = some (firstL [] (apL (frA l) l.length [] 0)) := by
        intro q j m h0
        induction j with
        | zero => exact h0
        | succ j ih => exact impl_longest.mono q q (fun _ => LeO.refl _) _ _ _ ih
      have lq : ∀ (j : Nat) (y : List Int) (r : Bool), impl_LargestApart_1.f K3 y l = some r → impl_LargestApart_1.f (K3 + j) y l = some r := by
        intro j y r h0
        induction j with
        | zero => exact h0
        | succ j ih => exact impl_LargestApart_1.mono y l (K3 + j) _ ih
      refine EvI (K1 + K3 + K4 + 1) fun k hk => ?_
      have fin : impl_longest.f (fun y_ => impl_LargestApart_1.f k y_ l) k (l.length : Int) = some (firstL [] (apL (frA l) l.length [] 0)) := by
        have h6 := stay _ (k - 1 - K4) K4 (h4 K4 (Nat.le_refl _))
        have h7 := impl_longest.mono _ (fun y_ => impl_LargestApart_1.f k y_ l) (fun y r h0 => by
          have := lq (k - K3) y r h0
          rwa [show K3 + (k - K3) = k by omega] at this) _ _ _ h6
        rw [show K4 + (k - 1 - K4) + 1 = k by omega] at h7
        exact h7
      rw [impl_LargestApart.f, cI k (by omega), if_pos h', Option.bind_some, if_pos rfl, fin, Option.bind_some]
    · obtain ⟨K3, h3⟩ := EvG ((sA l hlen l.length).2 0 [] (by omega) (fun j h => absurd h (Nat.not_lt_zero _)) (Nat.le_refl _))
      obtain ⟨K4, h4⟩ := EvG (firstF ([] :: apL (frA l) l.length [] 0) (by rw [List.length_cons]; omega) _ 1 [] rfl (by rw [List.length_cons]; omega))
      refine EvI (K2 + K3 + K4) fun k hk => ?_
      have h3' := h3 k (by omega)
      have h4' := h4 k (by omega)
      rw [show ((0 : Nat) : Int) = (0 : Int) from rfl] at h3'
      rw [show ((1 : Nat) : Int) = (1 : Int) from rfl] at h4'
      rw [spec_LargestApart.f, cS k (by omega), Option.bind_some, if_pos h', h3', Option.bind_some, if_pos (by rw [List.length_cons]; omega)]
      exact h4'
  · exact ⟨([], 1), EvI K1 fun k hk => by rw [impl_LargestApart.f, cI k hk, if_neg h, Option.bind_some, if_neg (by omega)],
      EvI K2 fun k hk => by rw [spec_LargestApart.f, cS k hk, Option.bind_some, if_neg h], Nat.zero_le _⟩
end Go.Proofs.Ytipdmnibjkdpcaa.Pure

namespace Go.Proofs.Ytipdmnibjkdpcaa.Pure
open Go.RowKit Go.Proofs.Ytipdmnibjkdpcaa.P Go.Proofs.YtipdmnibjkdpcaaW.PrintWords Go.Proofs.YtipdmnibjkdpcaaW.PrintLast
set_option linter.unusedVariables false
theorem FnExactLargestApart : laws_FnExactLargestApart.Pure := by
  rintro l ⟨hl, hw⟩
  have hs := szB l 1048576 (by omega) (by omega) hl
  by_cases hb : (l.length : Int) ≤ 1048576
  · rw [if_pos hb] at hs
    obtain ⟨r, r1, r2, r3⟩ := apartBoth (l.map cvb) (by rw [List.length_map]; omega) (wf_cvb hw)
    obtain ⟨K1, r1⟩ := EvG r1
    obtain ⟨K2, r2⟩ := EvG r2
    obtain ⟨K3, hT⟩ := EvG (toBS l (by omega))
    obtain ⟨K4, hE⟩ := EvG (eqI r.1 (by omega))
    obtain ⟨K5, hB⟩ := EvG (eqB (l.map cvb) (by rw [List.length_map]; omega))
    obtain ⟨K6, hM⟩ := EvG (markB (l.map cvb) (by rw [List.length_map]; omega))
    obtain ⟨K7, hN⟩ := EvG (markI r.1 1 (by omega) (by omega))
    obtain ⟨K8, hH⟩ := EvG (heldI r.1.length 1 (by omega) (by omega))
    refine ⟨K1 + K2 + K3 + K4 + K5 + K6 + K7 + K8 + 3, ?_⟩
    have hN' := fun k hk => hN k hk
    have hH' := fun k hk => hH k hk
    rw [show (((1 : Nat) : Int)) = (1 : Int) from rfl] at hN' hH'
    rw [laws_FnExactLargestApart.f, hs, Option.bind_some, if_neg (by omega), hT _ (by omega), Option.bind_some, r2 _ (by omega), Option.bind_some, Option.bind_some, r1 _ (by omega), Option.bind_some, hE _ (by omega), Option.bind_some, if_pos rfl, bne_self_eq_false,
      laws_FnExactLargestApart.j0, if_neg (by decide), hT _ (by omega), Option.bind_some, hB _ (by omega), Option.bind_some, if_pos rfl, hM _ (by omega), Option.bind_some, if_neg (by omega), hE _ (by omega), Option.bind_some, if_pos rfl, bne_self_eq_false,
      laws_FnExactLargestApart.j1, if_neg (by decide), hN' _ (by omega), Option.bind_some, hH' _ (by omega), Option.bind_some, if_neg (by omega), if_pos rfl, hT _ (by omega), Option.bind_some, r1 _ (by omega), Option.bind_some, hE _ (by omega), Option.bind_some, if_pos rfl, bne_self_eq_false,
      laws_FnExactLargestApart.j2, if_neg (by decide), hH' _ (by omega), Option.bind_some, if_neg (by omega), if_pos rfl]
  · rw [if_neg hb] at hs
    refine ⟨0, ?_⟩
    rw [laws_FnExactLargestApart.f, hs, Option.bind_some, if_pos (by omega)]
end Go.Proofs.Ytipdmnibjkdpcaa.Pure

namespace Go.Proofs.Ytipdmnibjkdpcaa.X
open Go.ChangeShapes Go.WideShapes Go.ChangeAt Go.RowKit Go.Proofs.YtipdmnibjkdpcaaW.PrintWords Go.Deep
set_option linter.unusedVariables false
def Opens {α : Type} (P : Program) (t : TypeId) (d : Kd α) (wf : α → Prop) : Prop :=
  ∀ (H : Type) (enc : TypeId × Value → H) (W : World) (held : Bool) (fuel : Nat) (cs : List Value) (x : DataW H × List MemPlace), DataW.trod enc P W 0 (fun _ => true) held fuel t cs = some x → ∃ a, d.K W a cs ∧ wf a
theorem Opens.int {P : Program} {t : TypeId} {k : IntKind} (ht : P.underlying t = some (.int k)) : Opens P t (Kd.int k) (fun n => (Lit.int k n).wf = true) := by
  intro H enc W held fuel cs x h
  obtain ⟨n, rfl, _, hw⟩ := DataW.trod_int ht h
  exact ⟨n, rfl, hw⟩
theorem Opens.slice {α : Type} [Inhabited α] {P : Program} {t e : TypeId} {d : Kd α} {wf : α → Prop} (ht : P.underlying t = some (.slice e)) (hc : P.cellsOf e = d.sz) (h : Opens P e d wf) :
    Opens P t (Kd.slice e d) (fun l => l.length ≤ 9223372036854775807 ∧ ∀ a ∈ l, wf a) := by
  intro H enc W held fuel cs x hx
  rcases open_slice ht hx with ⟨rfl, _⟩ | ⟨ad, len, cap, m, n, D, Pl, rfl, _, hl, hm, hmm, _, hel⟩
  · exact ⟨[], ⟨none, 0, rfl, Nat.le_refl _, ⟨rfl, by simp, fun h => absurd h (Nat.lt_irrefl 0)⟩⟩, by simp, fun a ha => by cases ha⟩
  · have hmc : m = cap := by simpa using hmm
    have each : ∀ i, i < len → ∃ a : α, wf a ∧ ∃ c, c.length = d.sz ∧ d.K W a c ∧ ∀ j u, c[j]? = some u → W.cell? (ad.add (i * d.sz + j)) = some u := by
      intro i hi
      obtain ⟨cs', h1, h2⟩ := hel i (by omega)
      obtain ⟨_, hlen, hcell⟩ := World.cells?_some h1
      obtain ⟨a, hK, hw⟩ := h H enc W held n cs' _ h2
      refine ⟨a, hw, cs', by rw [hlen, hc], hK, fun j u hu => ?_⟩
      have hj : j < P.cellsOf e := by have := (List.getElem?_eq_some_iff.1 hu).1; omega
      have h3 := hcell j hj
      rw [hu, hc] at h3
      rw [← h3]
      congr 1
      unfold Addr.add
      by_cases h4 : i * d.sz = 0 <;> by_cases h5 : j = 0 <;> simp [h4, h5, Nat.add_assoc]
    obtain ⟨f, hf⟩ := choose_lt each
    have hlen : ((List.range len).map f).length = len := by simp
    refine ⟨(List.range len).map f, ⟨some ad, cap, by rw [hlen], by rw [hlen]; exact hl, ⟨rfl, by rw [hlen]; unfold maxLen at hm; omega, fun _ => ⟨ad, rfl, fun j p hp => ?_⟩⟩⟩, by rw [hlen]; unfold maxLen at hm; omega, fun a ha => ?_⟩
    · have hj : j < len := by have := (List.getElem?_eq_some_iff.1 hp).1; omega
      have hp2 : f j = p := by simpa [hj] using hp
      rw [← hp2]
      exact (hf j hj).2
    · obtain ⟨i, hi, rfl⟩ := List.mem_map.1 ha
      exact (hf i (List.mem_range.1 hi)).1
theorem Opens.pair {α β : Type} {P : Program} {t : TypeId} {a : Kd α} {b : Kd β} {wa : α → Prop} {wb : β → Prop} {f0 f1 : Field} (hs : P.underlying t = some (.struct #[f0, f1])) (o0 : f0.offset = 0) (c0 : P.cellsOf f0.type = a.sz) (o1 : f1.offset = a.sz) (c1 : P.cellsOf f1.type = b.sz) (hc : P.cellsOf t = a.sz + b.sz)
    (ha : Opens P f0.type a wa) (hb : Opens P f1.type b wb) : Opens P t (Kd.pair a b) (fun x => wa x.1 ∧ wb x.2) := by
  intro H enc W held fuel cs x hx
  obtain ⟨xs, n, _, _, hl, hxl, hf⟩ := DataW.trod_struct hs hx
  have hxl : xs.length = 2 := hxl
  have g0 := hf 0 f0 rfl
  have g1 := hf 1 f1 rfl
  rw [List.getElem?_eq_getElem (by omega)] at g0 g1
  obtain ⟨x0, k0, w0⟩ := ha H enc W held n _ _ g0
  obtain ⟨x1, k1, w1⟩ := hb H enc W held n _ _ g1
  refine ⟨(x0, x1), ⟨_, _, ?_, k0, k1⟩, w0, w1⟩
  rw [o0, o1, c0, c1, List.drop_zero]
  rw [List.take_of_length_le (l := cs.drop a.sz) (by rw [List.length_drop]; omega), List.take_append_drop]
theorem Opens.triple {α β γ : Type} {P : Program} {t : TypeId} {a : Kd α} {b : Kd β} {c : Kd γ} {wa : α → Prop} {wb : β → Prop} {wc : γ → Prop} {f0 f1 f2 : Field} (hs : P.underlying t = some (.struct #[f0, f1, f2])) (o0 : f0.offset = 0) (c0 : P.cellsOf f0.type = a.sz) (o1 : f1.offset = a.sz) (c1 : P.cellsOf f1.type = b.sz) (o2 : f2.offset = a.sz + b.sz) (c2 : P.cellsOf f2.type = c.sz) (hc : P.cellsOf t = a.sz + b.sz + c.sz)
    (ha : Opens P f0.type a wa) (hb : Opens P f1.type b wb) (hcc : Opens P f2.type c wc) : Opens P t (Kd.pair a (Kd.pair b c)) (fun x => wa x.1 ∧ wb x.2.1 ∧ wc x.2.2) := by
  intro H enc W held fuel cs x hx
  obtain ⟨xs, n, _, _, hl, hxl, hf⟩ := DataW.trod_struct hs hx
  have hxl : xs.length = 3 := hxl
  have g0 := hf 0 f0 rfl
  have g1 := hf 1 f1 rfl
  have g2 := hf 2 f2 rfl
  rw [List.getElem?_eq_getElem (by omega)] at g0 g1 g2
  obtain ⟨x0, k0, w0⟩ := ha H enc W held n _ _ g0
  obtain ⟨x1, k1, w1⟩ := hb H enc W held n _ _ g1
  obtain ⟨x2, k2, w2⟩ := hcc H enc W held n _ _ g2
  refine ⟨(x0, x1, x2), ⟨_, _, ?_, k0, ⟨_, _, rfl, k1, k2⟩⟩, w0, w1, w2⟩
  rw [o0, o1, o2, c0, c1, c2, List.drop_zero]
  rw [List.take_of_length_le (l := cs.drop (a.sz + b.sz)) (by rw [List.length_drop]; omega), ← List.drop_drop, List.take_append_drop, List.take_append_drop]
theorem Opens.iso {α β : Type} {P : Program} {t : TypeId} {d : Kd α} {wf : α → Prop} (f : β → α) (g : α → β) (hg : ∀ a, f (g a) = a) (h : Opens P t d wf) : Opens P t (Kd.iso d f) (fun b => wf (f b)) := by
  intro H enc W held fuel cs x hx
  obtain ⟨a, hK, hw⟩ := h H enc W held fuel cs x hx
  refine ⟨g a, ?_, by show wf (f (g a)); rw [hg]; exact hw⟩
  show d.K W (f (g a)) cs
  rw [hg]; exact hK
theorem Opens.agg {α : Type} {P : Program} {t : TypeId} {d : Kd α} {wf : α → Prop} {fs : Array Field} (h : Opens P t d wf) (hs : P.underlying t = some (.struct fs)) {H : Type} {enc : TypeId × Value → H} {W : World} {r : Reach} {b0 : Nat} {v : Value} {dd : DataW H} {ps : List MemPlace}
    (hv : Value.okWide P W r b0 t v) (ht : DataW.Trod enc P W 0 (fun _ => true) true t v dd ps) : ∃ (a : α) (cs : List Value), v = .agg cs.toArray ∧ d.K W a cs ∧ wf a := by
  obtain ⟨cs, rfl, _⟩ := okWide_struct hs hv
  obtain ⟨fuel, hf⟩ := ht
  obtain ⟨a, hK, hw⟩ := h H enc W true fuel _ _ hf
  exact ⟨a, _, by simp [Value.cells], hK, hw⟩
theorem Opens.arg {α : Type} {P : Program} {t e : TypeId} {d : Kd α} {wf : List α → Prop} (h : Opens P t (Kd.slice e d) wf) (ht : P.underlying t = some (.slice e)) {H : Type} {enc : TypeId × Value → H} {W : World} {r : Reach} {b0 : Nat} {v : Value} {dd : DataW H} {ps : List MemPlace}
    (hv : Value.okWide P W r b0 t v) (hT : DataW.Trod enc P W 0 (fun _ => true) true t v dd ps) : ∃ (l : List α) (A : Option Addr) (c : Nat), v = .slice A l.length c ∧ l.length ≤ c ∧ d.C W A l.length l ∧ wf l := by
  obtain ⟨a, len, cap, rfl⟩ := okWide_slice ht hv
  obtain ⟨fuel, hf⟩ := hT
  obtain ⟨l, ⟨A, c, he, hl, hC⟩, hw⟩ := h H enc W true fuel _ _ hf
  have he2 : [Value.slice a len cap] = [Value.slice A l.length c] := by simpa [Value.cells] using he
  injection he2 with he2 _
  exact ⟨l, A, c, he2, hl, hC, hw⟩
end Go.Proofs.Ytipdmnibjkdpcaa.X
