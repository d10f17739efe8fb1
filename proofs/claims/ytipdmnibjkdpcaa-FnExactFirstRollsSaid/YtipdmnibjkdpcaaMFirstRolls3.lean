/- The Go functions that the law FnExactFirstRolls comes to, as plain Lean functions, the proofs that calls of them return what those tell, and the plain lemmas on them; no condition but those that each theorem states. -/
import Derived.Test.YtipdmnibjkdpcaaMFirstRolls2
import Derived.OpenShut
namespace Go.Proofs.Ytipdmnibjkdpcaa.P
open Go.RowKit Go.Proofs.YtipdmnibjkdpcaaW.PrintWords Go.Proofs.YtipdmnibjkdpcaaW.PrintLast Go.Proofs.YtipdmnibjkdpcaaW.PrintMore
attribute [local go_sem] max2_int min2_int max_two min_two max_three min_three max_four min_four
set_option linter.unusedVariables false
set_option linter.unusedSimpArgs false
mutual
def laws_FnExactFirstRolls.j0 : Nat → List Int → Int → List Int → Int → Int → List Int → List Int → Int → Int → Bool → Option (Bool)
  | 0, _, _, _, _, _, _, _, _, _, _ => none
  | k + 1, x0, x1, x5, x6, x7, x8, x9, x10, x11, x51 => if x51 = true then (some false) else ((laws_toInt64S.f k x0).bind fun t172 => ((laws_eqInt64S.f k x8 t172).bind fun t175 => (if t175 = true then ((laws_markInt64S.f k x8 1).bind fun bt176 => (if bt176.1 < 0 then (laws_FnExactFirstRolls.j1 k x0 x1 x5 x6 x7 x9 true) else ((laws_eqInt64S.f k x9 x5).bind fun t178 => (if t178 = true then (if x10 = x6 then (laws_FnExactFirstRolls.j1 k x0 x1 x5 x6 x7 x9 (x11 != x7)) else (laws_FnExactFirstRolls.j1 k x0 x1 x5 x6 x7 x9 true)) else (laws_FnExactFirstRolls.j1 k x0 x1 x5 x6 x7 x9 true))))) else (some false))))
def laws_FnExactFirstRolls.j1 : Nat → List Int → Int → List Int → Int → Int → List Int → Bool → Option (Bool)
  | 0, _, _, _, _, _, _, _ => none
  | k + 1, x0, x1, x5, x6, x7, x9, x77 => if x77 = true then (some false) else ((laws_markInt64S.f k x9 1).bind fun bt179 => ((laws_heldInt64S.f k bt179.2 1).bind fun t181 => (if t181 < 0 then (some false) else (if t181 = bt179.1 then ((laws_toInt64S.f k x0).bind fun t182 => ((impl_FirstRolls.f k t182 x1).bind fun bt185 => ((laws_eqInt64S.f k bt185.1 x5).bind fun t190 => (if t190 = true then (if bt185.2.1 = x6 then (laws_FnExactFirstRolls.j2 k bt179.2 bt179.1 (bt185.2.2 != x7)) else (laws_FnExactFirstRolls.j2 k bt179.2 bt179.1 true)) else (laws_FnExactFirstRolls.j2 k bt179.2 bt179.1 true))))) else (some false)))))
def laws_FnExactFirstRolls.j2 : Nat → List Int → Int → Bool → Option (Bool)
  | 0, _, _, _ => none
  | k + 1, x9, x13, x110 => if x110 = true then (some false) else ((laws_heldInt64S.f k x9 1).bind fun t191 => (if t191 < 0 then (some false) else (if t191 = x13 then (some true) else (some false))))
end
def laws_FnExactFirstRolls.f (k : Nat) (l0 : List Int) (a1 : Int) : Option (Bool) := if (l0.length : Int) > 1048576 then (some true) else ((laws_toInt64S.f k l0).bind fun t155 => ((spec_FirstRolls.f k t155 a1).bind fun bt158 => ((laws_toInt64S.f k l0).bind fun t163 => ((impl_FirstRolls.f k t163 a1).bind fun bt166 => ((laws_eqInt64S.f k bt166.1 bt158.1).bind fun t171 => (if t171 = true then (if bt166.2.1 = bt158.2.1 then (laws_FnExactFirstRolls.j0 k l0 a1 bt158.1 bt158.2.1 bt158.2.2 t163 bt166.1 bt166.2.1 bt166.2.2 (bt166.2.2 != bt158.2.2)) else (laws_FnExactFirstRolls.j0 k l0 a1 bt158.1 bt158.2.1 bt158.2.2 t163 bt166.1 bt166.2.1 bt166.2.2 true)) else (laws_FnExactFirstRolls.j0 k l0 a1 bt158.1 bt158.2.1 bt158.2.2 t163 bt166.1 bt166.2.1 bt166.2.2 true)))))))
set_option maxHeartbeats 8000000 in
set_option maxRecDepth 100000 in
theorem laws_FnExactFirstRolls.calls (k : Nat) (A0 : Option Addr) (c0 : Nat) (l0 : List Int) (a1 : Int) (r : Bool) (w : World) (hr0 : Kd.C (Kd.int .i64) w A0 l0.length l0) (hc0 : l0.length ≤ c0) (h : laws_FnExactFirstRolls.f k l0 a1 = some r) (hlaw_ : r = true := by rfl) :
    Calls Try.prog 3 #[.slice A0 l0.length c0, .int .i64 a1] w fun e w' => e = .returned (.bool r) ∧ Below w.heap.size w w' := by
  have HLAW := Aside0.mk hlaw_
  clear hlaw_
  have HR0 := Aside0.mk hr0
  have HC0 := Aside0.mk hc0
  clear hr0 hc0
  have HB := Aside0.mk (Below.refl w.heap.size w)
  have H : (if (l0.length : Int) > 1048576 then (some true) else ((laws_toInt64S.f k l0).bind fun t155 => ((spec_FirstRolls.f k t155 a1).bind fun bt158 => ((laws_toInt64S.f k l0).bind fun t163 => ((impl_FirstRolls.f k t163 a1).bind fun bt166 => ((laws_eqInt64S.f k bt166.1 bt158.1).bind fun t171 => (if t171 = true then (if bt166.2.1 = bt158.2.1 then (laws_FnExactFirstRolls.j0 k l0 a1 bt158.1 bt158.2.1 bt158.2.2 t163 bt166.1 bt166.2.1 bt166.2.2 (bt166.2.2 != bt158.2.2)) else (laws_FnExactFirstRolls.j0 k l0 a1 bt158.1 bt158.2.1 bt158.2.2 t163 bt166.1 bt166.2.1 bt166.2.2 true)) else (laws_FnExactFirstRolls.j0 k l0 a1 bt158.1 bt158.2.1 bt158.2.2 t163 bt166.1 bt166.2.1 bt166.2.2 true)))))))) = some r := h
  clear h
  by_cases c3 : (l0.length : Int) > 1048576
  rotate_left
  · rw [if_neg c3] at H
    have c3b0 : decide (1048576 < (l0.length : Int)) = false := decide_eq_false c3
    have c3b1 : decide (1048576 < l0.length) = false := decide_eq_false (by omega)
    clear c3
    replace H := Option.bind_eq_some_iff.mp H
    obtain ⟨t155, A40, H⟩ := H
    replace H : ((spec_FirstRolls.f k t155 a1).bind fun bt158 => ((laws_toInt64S.f k l0).bind fun t163 => ((impl_FirstRolls.f k t163 a1).bind fun bt166 => ((laws_eqInt64S.f k bt166.1 bt158.1).bind fun t171 => (if t171 = true then (if bt166.2.1 = bt158.2.1 then (laws_FnExactFirstRolls.j0 k l0 a1 bt158.1 bt158.2.1 bt158.2.2 t163 bt166.1 bt166.2.1 bt166.2.2 (bt166.2.2 != bt158.2.2)) else (laws_FnExactFirstRolls.j0 k l0 a1 bt158.1 bt158.2.1 bt158.2.2 t163 bt166.1 bt166.2.1 bt166.2.2 true)) else (laws_FnExactFirstRolls.j0 k l0 a1 bt158.1 bt158.2.1 bt158.2.2 t163 bt166.1 bt166.2.1 bt166.2.2 true)))))) = some r := H
    have A4 := Aside0.mk A40
    clear A40
    replace H := Option.bind_eq_some_iff.mp H
    obtain ⟨⟨t158, t159, t160⟩, A50, H⟩ := H
    replace H : ((laws_toInt64S.f k l0).bind fun t163 => ((impl_FirstRolls.f k t163 a1).bind fun bt166 => ((laws_eqInt64S.f k bt166.1 t158).bind fun t171 => (if t171 = true then (if bt166.2.1 = t159 then (laws_FnExactFirstRolls.j0 k l0 a1 t158 t159 t160 t163 bt166.1 bt166.2.1 bt166.2.2 (bt166.2.2 != t160)) else (laws_FnExactFirstRolls.j0 k l0 a1 t158 t159 t160 t163 bt166.1 bt166.2.1 bt166.2.2 true)) else (laws_FnExactFirstRolls.j0 k l0 a1 t158 t159 t160 t163 bt166.1 bt166.2.1 bt166.2.2 true))))) = some r := H
    have A5 := Aside0.mk A50
    clear A50
    replace H := Option.bind_eq_some_iff.mp H
    obtain ⟨t163, A60, H⟩ := H
    replace H : ((impl_FirstRolls.f k t163 a1).bind fun bt166 => ((laws_eqInt64S.f k bt166.1 t158).bind fun t171 => (if t171 = true then (if bt166.2.1 = t159 then (laws_FnExactFirstRolls.j0 k l0 a1 t158 t159 t160 t163 bt166.1 bt166.2.1 bt166.2.2 (bt166.2.2 != t160)) else (laws_FnExactFirstRolls.j0 k l0 a1 t158 t159 t160 t163 bt166.1 bt166.2.1 bt166.2.2 true)) else (laws_FnExactFirstRolls.j0 k l0 a1 t158 t159 t160 t163 bt166.1 bt166.2.1 bt166.2.2 true)))) = some r := H
    have A6 := Aside0.mk A60
    clear A60
    replace H := Option.bind_eq_some_iff.mp H
    obtain ⟨⟨t166, t167, t168⟩, A70, H⟩ := H
    replace H : ((laws_eqInt64S.f k t166 t158).bind fun t171 => (if t171 = true then (if t167 = t159 then (laws_FnExactFirstRolls.j0 k l0 a1 t158 t159 t160 t163 t166 t167 t168 (t168 != t160)) else (laws_FnExactFirstRolls.j0 k l0 a1 t158 t159 t160 t163 t166 t167 t168 true)) else (laws_FnExactFirstRolls.j0 k l0 a1 t158 t159 t160 t163 t166 t167 t168 true))) = some r := H
    have A7 := Aside0.mk A70
    clear A70
    have HC8 := Aside0.mk H
    clear H
    go_enter Try.func3, Try.ntmps3
    go_upto_region 6 with (first | ((with_reducible refine gate_callee (f := 10) rfl ?_); refine goesL_ (some 23) rfl rfl Try.func10 (by kernel_rfl) rfl #[.slice A0 l0.length c0] rfl (by (try simp only [List.map_toArray, List.map_cons, List.map_nil]); first | done | rfl | (simp only [List.length_drop, List.length_take]; rfl)) ?_; (with_reducible refine (laws_toInt64S.calls k _ _ l0 t155 _ ?side1 ?side2 A4.out).mono ?_); (case side1 => repeat (first | exact HR0.out | (with_reducible refine Kd.C_alloc ?_ _) | (with_reducible refine Kd.C_drewN ?_ _) | (with_reducible refine Kd.C_drew ?_))); (case side2 => exact HC0.out); rintro e w9 ⟨v156, rfl, ho0, hb⟩; refine ⟨_, rfl, ?_⟩; have n0_ := Aside0.mk (Kd.R_lower ho0 (below_size (by repeat (first | (with_reducible first | exact HB.out | apply below_alloc | apply pw_below_drewN | apply below_drew1) | exact HB.out)))); have n1_ := Aside0.mk (below_step (by repeat (first | (with_reducible first | exact HB.out | apply below_alloc | apply pw_below_drewN | apply below_drew1) | exact HB.out)) hb); clear HB; have HO157 := n0_; have HB := n1_; clear n0_ n1_; (try clear hb); (try clear hb2); (try clear hk); (try clear hi); (try clear ho0); obtain ⟨Ao10, co10, eo10⟩ := Kd.R_slice HO157.out; subst eo10) | ((with_reducible refine gate_callee (f := 9) rfl ?_); refine goesL_ (some 25) rfl rfl Try.func9 (by kernel_rfl) rfl #[.slice Ao10 t155.length co10, .int .i64 a1] rfl (by (try simp only [List.map_toArray, List.map_cons, List.map_nil]); first | done | rfl | (simp only [List.length_drop, List.length_take]; rfl)) ?_; (with_reducible refine (spec_FirstRolls.calls k _ _ t155 a1 t158 t159 t160 _ ?side1 ?side2 A5.out).mono ?_); (case side1 => repeat (first | exact (Kd.R_reads' HO157.out).2.2 | (with_reducible refine Kd.C_alloc ?_ _) | (with_reducible refine Kd.C_drewN ?_ _) | (with_reducible refine Kd.C_drew ?_))); (case side2 => exact (Kd.R_reads' HO157.out).2.1); rintro e w11 ⟨v161, rfl, ho0, hb⟩; refine ⟨_, rfl, ?_⟩; have n0_ := Aside0.mk (Kd.R_elder' (by (with_reducible repeat (first | apply Kd.R_alloc | apply Kd.R_drewN | apply Kd.R_drew)); exact HO157.out) (Kd.R_base ho0) hb); have n1_ := Aside0.mk (Kd.R_lower (Kd.R_new' ho0 (Kd.R_lt (by (with_reducible repeat (first | apply Kd.R_alloc | apply Kd.R_drewN | apply Kd.R_drew)); exact HO157.out))) (below_size (by repeat (first | (with_reducible first | exact HB.out | apply below_alloc | apply pw_below_drewN | apply below_drew1) | exact HB.out)))); have n2_ := Aside0.mk (below_step (by repeat (first | (with_reducible first | exact HB.out | apply below_alloc | apply pw_below_drewN | apply below_drew1) | exact HB.out)) hb); clear HO157; clear HB; have HO157 := n0_; have HO162 := n1_; have HB := n2_; clear n0_ n1_ n2_; (try clear hb); (try clear hb2); (try clear hk); (try clear hi); (try clear ho0)) | ((with_reducible refine gate_callee (f := 10) rfl ?_); refine goesL_ (some 30) rfl rfl Try.func10 (by kernel_rfl) rfl #[.slice A0 l0.length c0] rfl (by (try simp only [List.map_toArray, List.map_cons, List.map_nil]); first | done | rfl | (simp only [List.length_drop, List.length_take]; rfl)) ?_; (with_reducible refine (laws_toInt64S.calls k _ _ l0 t163 _ ?side1 ?side2 A6.out).mono ?_); (case side1 => repeat (first | exact (Kd.C_below HR0.out HB.out) | (with_reducible refine Kd.C_alloc ?_ _) | (with_reducible refine Kd.C_drewN ?_ _) | (with_reducible refine Kd.C_drew ?_))); (case side2 => exact HC0.out); rintro e w12 ⟨v164, rfl, ho0, hb⟩; refine ⟨_, rfl, ?_⟩; have n0_ := Aside0.mk (Kd.R_elder' (by (with_reducible repeat (first | apply Kd.R_alloc | apply Kd.R_drewN | apply Kd.R_drew)); exact HO157.out) (Kd.R_base ho0) hb); have n1_ := Aside0.mk (Kd.R_elder' (by (with_reducible repeat (first | apply Kd.R_alloc | apply Kd.R_drewN | apply Kd.R_drew)); exact HO162.out) (Kd.R_base ho0) hb); have n2_ := Aside0.mk (Kd.R_lower (Kd.R_new' (Kd.R_new' ho0 (Kd.R_lt (by (with_reducible repeat (first | apply Kd.R_alloc | apply Kd.R_drewN | apply Kd.R_drew)); exact HO157.out))) (Kd.R_lt (by (with_reducible repeat (first | apply Kd.R_alloc | apply Kd.R_drewN | apply Kd.R_drew)); exact HO162.out))) (below_size (by repeat (first | (with_reducible first | exact HB.out | apply below_alloc | apply pw_below_drewN | apply below_drew1) | exact HB.out)))); have n3_ := Aside0.mk (below_step (by repeat (first | (with_reducible first | exact HB.out | apply below_alloc | apply pw_below_drewN | apply below_drew1) | exact HB.out)) hb); clear HO157; clear HO162; clear HB; have HO157 := n0_; have HO162 := n1_; have HO165 := n2_; have HB := n3_; clear n0_ n1_ n2_ n3_; (try clear hb); (try clear hb2); (try clear hk); (try clear hi); (try clear ho0); obtain ⟨Ao13, co13, eo13⟩ := Kd.R_slice HO165.out; subst eo13) | ((with_reducible refine gate_callee (f := 11) rfl ?_); refine goesL_ (some 34) rfl rfl Try.func11 (by kernel_rfl) rfl #[.slice Ao13 t163.length co13, .int .i64 a1] rfl (by (try simp only [List.map_toArray, List.map_cons, List.map_nil]); first | done | rfl | (simp only [List.length_drop, List.length_take]; rfl)) ?_; (with_reducible refine (impl_FirstRolls.calls k _ _ t163 a1 t166 t167 t168 _ ?side1 ?side2 A7.out).mono ?_); (case side1 => repeat (first | exact (Kd.R_reads' HO165.out).2.2 | (with_reducible refine Kd.C_alloc ?_ _) | (with_reducible refine Kd.C_drewN ?_ _) | (with_reducible refine Kd.C_drew ?_))); (case side2 => exact (Kd.R_reads' HO165.out).2.1); rintro e w14 ⟨v169, rfl, ho0, hb⟩; refine ⟨_, rfl, ?_⟩; have n0_ := Aside0.mk (Kd.R_elder' (by (with_reducible repeat (first | apply Kd.R_alloc | apply Kd.R_drewN | apply Kd.R_drew)); exact HO157.out) (Kd.R_base ho0) hb); have n1_ := Aside0.mk (Kd.R_elder' (by (with_reducible repeat (first | apply Kd.R_alloc | apply Kd.R_drewN | apply Kd.R_drew)); exact HO162.out) (Kd.R_base ho0) hb); have n2_ := Aside0.mk (Kd.R_elder' (by (with_reducible repeat (first | apply Kd.R_alloc | apply Kd.R_drewN | apply Kd.R_drew)); exact HO165.out) (Kd.R_base ho0) hb); have n3_ := Aside0.mk (Kd.R_lower (Kd.R_new' (Kd.R_new' (Kd.R_new' ho0 (Kd.R_lt (by (with_reducible repeat (first | apply Kd.R_alloc | apply Kd.R_drewN | apply Kd.R_drew)); exact HO157.out))) (Kd.R_lt (by (with_reducible repeat (first | apply Kd.R_alloc | apply Kd.R_drewN | apply Kd.R_drew)); exact HO162.out))) (Kd.R_lt (by (with_reducible repeat (first | apply Kd.R_alloc | apply Kd.R_drewN | apply Kd.R_drew)); exact HO165.out))) (below_size (by repeat (first | (with_reducible first | exact HB.out | apply below_alloc | apply pw_below_drewN | apply below_drew1) | exact HB.out)))); have n4_ := Aside0.mk (below_step (by repeat (first | (with_reducible first | exact HB.out | apply below_alloc | apply pw_below_drewN | apply below_drew1) | exact HB.out)) hb); clear HO157; clear HO162; clear HO165; clear HB; have HO157 := n0_; have HO162 := n1_; have HO165 := n2_; have HO170 := n3_; have HB := n4_; clear n0_ n1_ n2_ n3_ n4_; (try clear hb); (try clear hb2); (try clear hk); (try clear hi); (try clear ho0)))
    (try simp only [Act.put, List.setIfInBounds_toArray, List.set_cons_zero, List.set_cons_succ])
    go_cut [51] (fun v51 wc => ∃ (kq : Nat) (x51_7 : Bool), v51 = .bool x51_7 ∧ Aside0 (laws_FnExactFirstRolls.j0 kq l0 a1 t158 t159 t160 t163 t166 t167 t168 x51_7 = some r) ∧ Aside0 (kq ≤ k) ∧ Aside0 (Kd.R (Kd.int .i64) 2 wc w.heap.size (fun k_ => some k_ ≠ ((.slice Ao13 t163.length co13) : Value).ownBlock ∧ some k_ ≠ (v169 : Value).ownBlock) v161 t158) ∧ Aside0 (Kd.R (Kd.int .i64) 2 wc w.heap.size (fun k_ => some k_ ≠ (v161 : Value).ownBlock ∧ some k_ ≠ (v169 : Value).ownBlock) (.slice Ao13 t163.length co13) t163) ∧ Aside0 (Kd.R (Kd.int .i64) 2 wc w.heap.size (fun k_ => some k_ ≠ (v161 : Value).ownBlock ∧ some k_ ≠ ((.slice Ao13 t163.length co13) : Value).ownBlock) v169 t166) ∧ Aside0 (Below w.heap.size w wc))
    case first =>
      have H := HC8.out
      clear HC8
      replace H := Option.bind_eq_some_iff.mp H
      obtain ⟨t171, A150, H⟩ := H
      replace H : (if t171 = true then (if t167 = t159 then (laws_FnExactFirstRolls.j0 k l0 a1 t158 t159 t160 t163 t166 t167 t168 (t168 != t160)) else (laws_FnExactFirstRolls.j0 k l0 a1 t158 t159 t160 t163 t166 t167 t168 true)) else (laws_FnExactFirstRolls.j0 k l0 a1 t158 t159 t160 t163 t166 t167 t168 true)) = some r := H
      have A15 := Aside0.mk A150
      clear A150
      by_cases c16 : t171 = true
      rotate_left
      · replace c16 := Bool.eq_false_iff.mpr c16
        subst c16
        have H1 : (laws_FnExactFirstRolls.j0 k l0 a1 t158 t159 t160 t163 t166 t167 t168 true) = some r := by rw [if_neg (show ¬ (false = true) by decide)] at H; exact H
        clear H
        have H := H1
        clear H1
        have H' := Aside0.mk H
        clear H
        obtain ⟨Ao22, co22, eo22⟩ := Kd.R_slice HO170.out
        subst eo22
        obtain ⟨Ao23, co23, eo23⟩ := Kd.R_slice HO162.out
        subst eo23
        go_wp2_with (first | ((with_reducible refine gate_callee (f := 12) rfl ?_); refine goesL_ (some 40) rfl rfl Try.func12 (by kernel_rfl) rfl #[.slice Ao22 t166.length co22, .slice Ao23 t158.length co23] rfl (by (try simp only [List.map_toArray, List.map_cons, List.map_nil]); first | done | rfl | (simp only [List.length_drop, List.length_take]; rfl)) ?_; (with_reducible refine (laws_eqInt64S.calls k _ _ t166 _ _ t158 false _ ?side1 ?side2 ?side3 ?side4 A15.out).mono ?_); (case side1 => repeat (first | exact (Kd.R_reads' HO170.out).2.2 | (with_reducible refine Kd.C_alloc ?_ _) | (with_reducible refine Kd.C_drewN ?_ _) | (with_reducible refine Kd.C_drew ?_))); (case side2 => exact (Kd.R_reads' HO170.out).2.1); (case side3 => repeat (first | exact (Kd.R_reads' HO162.out).2.2 | (with_reducible refine Kd.C_alloc ?_ _) | (with_reducible refine Kd.C_drewN ?_ _) | (with_reducible refine Kd.C_drew ?_))); (case side4 => exact (Kd.R_reads' HO162.out).2.1); rintro e w' ⟨rfl, ⟨nd, rfl⟩⟩; refine ⟨_, rfl, ?_⟩))
        go_meet
        case rel => exact ⟨_, (true), (by first | rfl | (simp; done) | (simp [*]; done)), H', ⟨by first | omega | exact Nat.le_refl _⟩, ⟨by (with_reducible repeat (first | apply Kd.R_alloc | apply Kd.R_drewN | apply Kd.R_drew)); exact Kd.R_mono HO162.out (fun _ hk => ⟨hk.1.2, hk.2⟩)⟩, ⟨by (with_reducible repeat (first | apply Kd.R_alloc | apply Kd.R_drewN | apply Kd.R_drew)); exact Kd.R_mono HO165.out (fun _ hk => ⟨hk.1.2, hk.2⟩)⟩, ⟨by (with_reducible repeat (first | apply Kd.R_alloc | apply Kd.R_drewN | apply Kd.R_drew)); exact Kd.R_mono HO170.out (fun _ hk => ⟨hk.1.2, hk.2⟩)⟩, ⟨by repeat (first | (with_reducible first | exact HB.out | apply below_alloc | apply pw_below_drewN | apply below_drew1) | exact HB.out)⟩⟩
      subst c16
      have H1 : (if t167 = t159 then (laws_FnExactFirstRolls.j0 k l0 a1 t158 t159 t160 t163 t166 t167 t168 (t168 != t160)) else (laws_FnExactFirstRolls.j0 k l0 a1 t158 t159 t160 t163 t166 t167 t168 true)) = some r := by rw [if_pos rfl] at H; exact H
      clear H
      have H := H1
      clear H1
      by_cases c17 : t167 = t159
      rotate_left
      · rw [if_neg c17] at H
        have c17b0 : (t167 == t159) = false := beq_eq_false_iff_ne.mpr c17
        have c17b1 : (t167 != t159) = true := bne_iff_ne.mpr c17
        (first | rw [c17b0] | (simp only [i64_w, i32_w]; rw [c17b0]) | skip)
        have H' := Aside0.mk H
        clear H
        obtain ⟨Ao20, co20, eo20⟩ := Kd.R_slice HO170.out
        subst eo20
        obtain ⟨Ao21, co21, eo21⟩ := Kd.R_slice HO162.out
        subst eo21
        go_wp2_with (first | ((with_reducible refine gate_callee (f := 12) rfl ?_); refine goesL_ (some 40) rfl rfl Try.func12 (by kernel_rfl) rfl #[.slice Ao20 t166.length co20, .slice Ao21 t158.length co21] rfl (by (try simp only [List.map_toArray, List.map_cons, List.map_nil]); first | done | rfl | (simp only [List.length_drop, List.length_take]; rfl)) ?_; (with_reducible refine (laws_eqInt64S.calls k _ _ t166 _ _ t158 true _ ?side1 ?side2 ?side3 ?side4 A15.out).mono ?_); (case side1 => repeat (first | exact (Kd.R_reads' HO170.out).2.2 | (with_reducible refine Kd.C_alloc ?_ _) | (with_reducible refine Kd.C_drewN ?_ _) | (with_reducible refine Kd.C_drew ?_))); (case side2 => exact (Kd.R_reads' HO170.out).2.1); (case side3 => repeat (first | exact (Kd.R_reads' HO162.out).2.2 | (with_reducible refine Kd.C_alloc ?_ _) | (with_reducible refine Kd.C_drewN ?_ _) | (with_reducible refine Kd.C_drew ?_))); (case side4 => exact (Kd.R_reads' HO162.out).2.1); rintro e w' ⟨rfl, ⟨nd, rfl⟩⟩; refine ⟨_, rfl, ?_⟩))
        go_meet
        case rel => exact ⟨_, (true), (by first | rfl | (simp; done) | (simp [*]; done)), H', ⟨by first | omega | exact Nat.le_refl _⟩, ⟨by (with_reducible repeat (first | apply Kd.R_alloc | apply Kd.R_drewN | apply Kd.R_drew)); exact Kd.R_mono HO162.out (fun _ hk => ⟨hk.1.2, hk.2⟩)⟩, ⟨by (with_reducible repeat (first | apply Kd.R_alloc | apply Kd.R_drewN | apply Kd.R_drew)); exact Kd.R_mono HO165.out (fun _ hk => ⟨hk.1.2, hk.2⟩)⟩, ⟨by (with_reducible repeat (first | apply Kd.R_alloc | apply Kd.R_drewN | apply Kd.R_drew)); exact Kd.R_mono HO170.out (fun _ hk => ⟨hk.1.2, hk.2⟩)⟩, ⟨by repeat (first | (with_reducible first | exact HB.out | apply below_alloc | apply pw_below_drewN | apply below_drew1) | exact HB.out)⟩⟩
      rw [if_pos c17] at H
      have c17b0 : (t167 == t159) = true := beq_iff_eq.mpr c17
      have c17b1 : (t167 != t159) = false := bne_eq_false_iff_eq.mpr c17
      clear c17
      (first | rw [c17b0] | (simp only [i64_w, i32_w]; rw [c17b0]) | skip)
      have H' := Aside0.mk H
      clear H
      obtain ⟨Ao18, co18, eo18⟩ := Kd.R_slice HO170.out
      subst eo18
      obtain ⟨Ao19, co19, eo19⟩ := Kd.R_slice HO162.out
      subst eo19
      go_wp2_with (first | ((with_reducible refine gate_callee (f := 12) rfl ?_); refine goesL_ (some 40) rfl rfl Try.func12 (by kernel_rfl) rfl #[.slice Ao18 t166.length co18, .slice Ao19 t158.length co19] rfl (by (try simp only [List.map_toArray, List.map_cons, List.map_nil]); first | done | rfl | (simp only [List.length_drop, List.length_take]; rfl)) ?_; (with_reducible refine (laws_eqInt64S.calls k _ _ t166 _ _ t158 true _ ?side1 ?side2 ?side3 ?side4 A15.out).mono ?_); (case side1 => repeat (first | exact (Kd.R_reads' HO170.out).2.2 | (with_reducible refine Kd.C_alloc ?_ _) | (with_reducible refine Kd.C_drewN ?_ _) | (with_reducible refine Kd.C_drew ?_))); (case side2 => exact (Kd.R_reads' HO170.out).2.1); (case side3 => repeat (first | exact (Kd.R_reads' HO162.out).2.2 | (with_reducible refine Kd.C_alloc ?_ _) | (with_reducible refine Kd.C_drewN ?_ _) | (with_reducible refine Kd.C_drew ?_))); (case side4 => exact (Kd.R_reads' HO162.out).2.1); rintro e w' ⟨rfl, ⟨nd, rfl⟩⟩; refine ⟨_, rfl, ?_⟩))
      go_meet
      case rel => exact ⟨_, ((t168 != t160)), (by first | rfl | (simp; done) | (simp [*]; done)), H', ⟨by first | omega | exact Nat.le_refl _⟩, ⟨by (with_reducible repeat (first | apply Kd.R_alloc | apply Kd.R_drewN | apply Kd.R_drew)); exact Kd.R_mono HO162.out (fun _ hk => ⟨hk.1.2, hk.2⟩)⟩, ⟨by (with_reducible repeat (first | apply Kd.R_alloc | apply Kd.R_drewN | apply Kd.R_drew)); exact Kd.R_mono HO165.out (fun _ hk => ⟨hk.1.2, hk.2⟩)⟩, ⟨by (with_reducible repeat (first | apply Kd.R_alloc | apply Kd.R_drewN | apply Kd.R_drew)); exact Kd.R_mono HO170.out (fun _ hk => ⟨hk.1.2, hk.2⟩)⟩, ⟨by repeat (first | (with_reducible first | exact HB.out | apply below_alloc | apply pw_below_drewN | apply below_drew1) | exact HB.out)⟩⟩
    case rest =>
      clear HC8
      try clear c1
      try clear p2
      try clear c3
      try clear c3b0
      try clear c3b1
      try clear c9
      try clear c10
      try clear c11
      try clear c12
      try clear c16
      try clear c17
      try clear c17b0
      try clear c17b1
      obtain ⟨kq, x51_7, rfl, HA, HJ7, HO_5, HO_8, HO_9, HB⟩ := hcut
      cases kq with
      | zero => exact absurd HA.out (by simp [laws_FnExactFirstRolls.j0])
      | succ kj7 =>
        have H := HA.out
        clear HA
        simp only [laws_FnExactFirstRolls.j0] at H
        by_cases c24 : x51_7 = true
        rotate_left
        · replace c24 := Bool.eq_false_iff.mpr c24
          subst c24
          have H1 : ((laws_toInt64S.f kj7 l0).bind fun t172 => ((laws_eqInt64S.f kj7 t163 t172).bind fun t175 => (if t175 = true then ((laws_markInt64S.f kj7 t163 1).bind fun bt176 => (if bt176.1 < 0 then (laws_FnExactFirstRolls.j1 kj7 l0 a1 t158 t159 t160 t166 true) else ((laws_eqInt64S.f kj7 t166 t158).bind fun t178 => (if t178 = true then (if t167 = t159 then (laws_FnExactFirstRolls.j1 kj7 l0 a1 t158 t159 t160 t166 (t168 != t160)) else (laws_FnExactFirstRolls.j1 kj7 l0 a1 t158 t159 t160 t166 true)) else (laws_FnExactFirstRolls.j1 kj7 l0 a1 t158 t159 t160 t166 true))))) else (some false)))) = some r := by rw [if_neg (show ¬ (false = true) by decide)] at H; exact H
          clear H
          have H := H1
          clear H1
          replace H := Option.bind_eq_some_iff.mp H
          obtain ⟨t172, A250, H⟩ := H
          replace H : ((laws_eqInt64S.f kj7 t163 t172).bind fun t175 => (if t175 = true then ((laws_markInt64S.f kj7 t163 1).bind fun bt176 => (if bt176.1 < 0 then (laws_FnExactFirstRolls.j1 kj7 l0 a1 t158 t159 t160 t166 true) else ((laws_eqInt64S.f kj7 t166 t158).bind fun t178 => (if t178 = true then (if t167 = t159 then (laws_FnExactFirstRolls.j1 kj7 l0 a1 t158 t159 t160 t166 (t168 != t160)) else (laws_FnExactFirstRolls.j1 kj7 l0 a1 t158 t159 t160 t166 true)) else (laws_FnExactFirstRolls.j1 kj7 l0 a1 t158 t159 t160 t166 true))))) else (some false))) = some r := H
          have A25 := Aside0.mk A250
          clear A250
          replace H := Option.bind_eq_some_iff.mp H
          obtain ⟨t175, A260, H⟩ := H
          replace H : (if t175 = true then ((laws_markInt64S.f kj7 t163 1).bind fun bt176 => (if bt176.1 < 0 then (laws_FnExactFirstRolls.j1 kj7 l0 a1 t158 t159 t160 t166 true) else ((laws_eqInt64S.f kj7 t166 t158).bind fun t178 => (if t178 = true then (if t167 = t159 then (laws_FnExactFirstRolls.j1 kj7 l0 a1 t158 t159 t160 t166 (t168 != t160)) else (laws_FnExactFirstRolls.j1 kj7 l0 a1 t158 t159 t160 t166 true)) else (laws_FnExactFirstRolls.j1 kj7 l0 a1 t158 t159 t160 t166 true))))) else (some false)) = some r := H
          have A26 := Aside0.mk A260
          clear A260
          by_cases c27 : t175 = true
          rotate_left
          · replace c27 := Bool.eq_false_iff.mpr c27
            subst c27
            have H1 : (some false) = some r := by rw [if_neg (show ¬ (false = true) by decide)] at H; exact H
            clear H
            have H := H1
            clear H1
            exact absurd ((Option.some.inj H).trans HLAW.out) (by decide)
          subst c27
          have H1 : ((laws_markInt64S.f kj7 t163 1).bind fun bt176 => (if bt176.1 < 0 then (laws_FnExactFirstRolls.j1 kj7 l0 a1 t158 t159 t160 t166 true) else ((laws_eqInt64S.f kj7 t166 t158).bind fun t178 => (if t178 = true then (if t167 = t159 then (laws_FnExactFirstRolls.j1 kj7 l0 a1 t158 t159 t160 t166 (t168 != t160)) else (laws_FnExactFirstRolls.j1 kj7 l0 a1 t158 t159 t160 t166 true)) else (laws_FnExactFirstRolls.j1 kj7 l0 a1 t158 t159 t160 t166 true))))) = some r := by rw [if_pos rfl] at H; exact H
          clear H
          have H := H1
          clear H1
          replace H := Option.bind_eq_some_iff.mp H
          obtain ⟨⟨t176, t177⟩, A280, H⟩ := H
          replace H : (if t176 < 0 then (laws_FnExactFirstRolls.j1 kj7 l0 a1 t158 t159 t160 t166 true) else ((laws_eqInt64S.f kj7 t166 t158).bind fun t178 => (if t178 = true then (if t167 = t159 then (laws_FnExactFirstRolls.j1 kj7 l0 a1 t158 t159 t160 t166 (t168 != t160)) else (laws_FnExactFirstRolls.j1 kj7 l0 a1 t158 t159 t160 t166 true)) else (laws_FnExactFirstRolls.j1 kj7 l0 a1 t158 t159 t160 t166 true)))) = some r := H
          have A28 := Aside0.mk A280
          clear A280
          have HC29 := Aside0.mk H
          clear H
          go_upto_region 12 with (first | ((with_reducible refine gate_callee (f := 10) rfl ?_); refine goesL_ (some 54) rfl rfl Try.func10 (by kernel_rfl) rfl #[.slice A0 l0.length c0] rfl (by (try simp only [List.map_toArray, List.map_cons, List.map_nil]); first | done | rfl | (simp only [List.length_drop, List.length_take]; rfl)) ?_; (with_reducible refine (laws_toInt64S.calls kj7 _ _ l0 t172 _ ?side1 ?side2 A25.out).mono ?_); (case side1 => repeat (first | exact (Kd.C_below HR0.out HB.out) | (with_reducible refine Kd.C_alloc ?_ _) | (with_reducible refine Kd.C_drewN ?_ _) | (with_reducible refine Kd.C_drew ?_))); (case side2 => exact HC0.out); rintro e w30 ⟨v173, rfl, ho0, hb⟩; refine ⟨_, rfl, ?_⟩; have n0_ := Aside0.mk (Kd.R_elder' (by (with_reducible repeat (first | apply Kd.R_alloc | apply Kd.R_drewN | apply Kd.R_drew)); exact HO_5.out) (Kd.R_base ho0) hb); have n1_ := Aside0.mk (Kd.R_elder' (by (with_reducible repeat (first | apply Kd.R_alloc | apply Kd.R_drewN | apply Kd.R_drew)); exact HO_8.out) (Kd.R_base ho0) hb); have n2_ := Aside0.mk (Kd.R_elder' (by (with_reducible repeat (first | apply Kd.R_alloc | apply Kd.R_drewN | apply Kd.R_drew)); exact HO_9.out) (Kd.R_base ho0) hb); have n3_ := Aside0.mk (Kd.R_lower (Kd.R_new' (Kd.R_new' (Kd.R_new' ho0 (Kd.R_lt (by (with_reducible repeat (first | apply Kd.R_alloc | apply Kd.R_drewN | apply Kd.R_drew)); exact HO_5.out))) (Kd.R_lt (by (with_reducible repeat (first | apply Kd.R_alloc | apply Kd.R_drewN | apply Kd.R_drew)); exact HO_8.out))) (Kd.R_lt (by (with_reducible repeat (first | apply Kd.R_alloc | apply Kd.R_drewN | apply Kd.R_drew)); exact HO_9.out))) (below_size (by repeat (first | (with_reducible first | exact HB.out | apply below_alloc | apply pw_below_drewN | apply below_drew1) | exact HB.out)))); have n4_ := Aside0.mk (below_step (by repeat (first | (with_reducible first | exact HB.out | apply below_alloc | apply pw_below_drewN | apply below_drew1) | exact HB.out)) hb); clear HO_5; clear HO_8; clear HO_9; clear HB; have HO_5 := n0_; have HO_8 := n1_; have HO_9 := n2_; have HO174 := n3_; have HB := n4_; clear n0_ n1_ n2_ n3_ n4_; (try clear hb); (try clear hb2); (try clear hk); (try clear hi); (try clear ho0); obtain ⟨Ao31, co31, eo31⟩ := Kd.R_slice HO174.out; subst eo31) | ((with_reducible refine gate_callee (f := 12) rfl ?_); refine goesL_ (some 55) rfl rfl Try.func12 (by kernel_rfl) rfl #[.slice Ao13 t163.length co13, .slice Ao31 t172.length co31] rfl (by (try simp only [List.map_toArray, List.map_cons, List.map_nil]); first | done | rfl | (simp only [List.length_drop, List.length_take]; rfl)) ?_; (with_reducible refine (laws_eqInt64S.calls kj7 _ _ t163 _ _ t172 true _ ?side1 ?side2 ?side3 ?side4 A26.out).mono ?_); (case side1 => repeat (first | exact (Kd.R_reads' HO_8.out).2.2 | (with_reducible refine Kd.C_alloc ?_ _) | (with_reducible refine Kd.C_drewN ?_ _) | (with_reducible refine Kd.C_drew ?_))); (case side2 => exact (Kd.R_reads' HO_8.out).2.1); (case side3 => repeat (first | exact (Kd.R_reads' HO174.out).2.2 | (with_reducible refine Kd.C_alloc ?_ _) | (with_reducible refine Kd.C_drewN ?_ _) | (with_reducible refine Kd.C_drew ?_))); (case side4 => exact (Kd.R_reads' HO174.out).2.1); rintro e w' ⟨rfl, ⟨nd, rfl⟩⟩; refine ⟨_, rfl, ?_⟩) | ((with_reducible refine gate_callee (f := 13) rfl ?_); refine goesL_ (some 59) rfl rfl Try.func13 (by kernel_rfl) rfl #[.slice Ao13 t163.length co13, .int .i64 1] rfl (by (try simp only [List.map_toArray, List.map_cons, List.map_nil]); first | done | rfl | (simp only [List.length_drop, List.length_take]; rfl)) ?_; (with_reducible refine (laws_markInt64S.calls kj7 (fun k_ => some k_ = (.slice Ao13 t163.length co13 : Value).ownBlock) (.slice Ao13 t163.length co13) t163 1 t176 t177 w _ ?side1 ?side2 A28.out).mono ?_); (case side1 => repeat (first | (with_reducible first | exact HB.out | apply below_alloc | apply pw_below_drewN | apply below_drew1) | exact HB.out)); (case side2 => exact Kd.R_tight rfl HO_8.out); rintro e w32 ⟨rfl, hy0, hb, hkp⟩; refine ⟨_, rfl, ?_⟩; have n0_ := Aside0.mk (Kd.R_mono (ok' := fun k_ => some k_ ≠ (.slice Ao13 t163.length co13 : Value).ownBlock ∧ some k_ ≠ (v169 : Value).ownBlock ∧ some k_ ≠ (.slice Ao31 t172.length co31 : Value).ownBlock) (Kd.R_keptB (HO_5.out) hkp (fun k_ hk_ hs_ => (hk_.1.1) hs_)) (fun k_ hk_ => ⟨hk_.1.1.1, hk_.1.1.2, hk_.1.2⟩)); have n1_ := Aside0.mk (Kd.R_reok rfl hy0 (fun k_ e_ => HO_8.out.1 k_ e_)); have n2_ := Aside0.mk (Kd.R_mono (ok' := fun k_ => some k_ ≠ (v161 : Value).ownBlock ∧ some k_ ≠ (.slice Ao13 t163.length co13 : Value).ownBlock ∧ some k_ ≠ (.slice Ao31 t172.length co31 : Value).ownBlock) (Kd.R_keptB (HO_9.out) hkp (fun k_ hk_ hs_ => (hk_.1.2) hs_)) (fun k_ hk_ => ⟨hk_.1.1.1, hk_.1.1.2, hk_.1.2⟩)); have n3_ := Aside0.mk (Kd.R_mono (ok' := fun k_ => some k_ ≠ (v161 : Value).ownBlock ∧ some k_ ≠ (.slice Ao13 t163.length co13 : Value).ownBlock ∧ some k_ ≠ (v169 : Value).ownBlock) (Kd.R_keptB (HO174.out) hkp (fun k_ hk_ hs_ => (hk_.1.2) hs_)) (fun k_ hk_ => ⟨hk_.1.1.1.2, hk_.1.1.2, hk_.1.2⟩)); have n4_ := Aside0.mk (hb); clear HO_5; clear HO_8; clear HO_9; clear HO174; clear HB; have HO_5 := n0_; have HO_8 := n1_; have HO_9 := n2_; have HO174 := n3_; have HB := n4_; clear n0_ n1_ n2_ n3_ n4_; (try clear hb); (try clear hkp); (try clear hy0)))
          (try simp only [Act.put, List.setIfInBounds_toArray, List.set_cons_zero, List.set_cons_succ])
          go_cut [77] (fun v77 wc => ∃ (kq : Nat) (x77_28 : Bool), v77 = .bool x77_28 ∧ Aside0 (laws_FnExactFirstRolls.j1 kq l0 a1 t158 t159 t160 t166 x77_28 = some r) ∧ Aside0 (kq ≤ kj7) ∧ Aside0 (Kd.R (Kd.int .i64) 2 wc w.heap.size (fun k_ => some k_ ≠ (v169 : Value).ownBlock) v161 t158) ∧ Aside0 (Kd.R (Kd.int .i64) 2 wc w.heap.size (fun k_ => some k_ ≠ (v161 : Value).ownBlock) v169 t166) ∧ Aside0 (Below w.heap.size w wc))
          case first =>
            have H := HC29.out
            clear HC29
            by_cases c33 : t176 < 0
            rotate_left
            · rw [if_neg c33] at H
              have c33b0 : decide (t176 < 0) = false := decide_eq_false c33
              clear c33
              (first | rw [c33b0] | (simp only [i64_w, i32_w]; rw [c33b0]) | skip)
              replace H := Option.bind_eq_some_iff.mp H
              obtain ⟨t178, A340, H⟩ := H
              replace H : (if t178 = true then (if t167 = t159 then (laws_FnExactFirstRolls.j1 kj7 l0 a1 t158 t159 t160 t166 (t168 != t160)) else (laws_FnExactFirstRolls.j1 kj7 l0 a1 t158 t159 t160 t166 true)) else (laws_FnExactFirstRolls.j1 kj7 l0 a1 t158 t159 t160 t166 true)) = some r := H
              have A34 := Aside0.mk A340
              clear A340
              by_cases c35 : t178 = true
              rotate_left
              · replace c35 := Bool.eq_false_iff.mpr c35
                subst c35
                have H1 : (laws_FnExactFirstRolls.j1 kj7 l0 a1 t158 t159 t160 t166 true) = some r := by rw [if_neg (show ¬ (false = true) by decide)] at H; exact H
                clear H
                have H := H1
                clear H1
                have H' := Aside0.mk H
                clear H
                obtain ⟨Ao41, co41, eo41⟩ := Kd.R_slice HO_9.out
                subst eo41
                obtain ⟨Ao42, co42, eo42⟩ := Kd.R_slice HO_5.out
                subst eo42
                go_wp2_with (first | (go_at_call 12; (with_reducible refine (laws_eqInt64S.calls kj7 _ _ t166 _ _ t158 false _ ?side1 ?side2 ?side3 ?side4 A34.out).mono ?_); (case side1 => repeat (first | exact (Kd.R_reads' HO_9.out).2.2 | (with_reducible refine Kd.C_alloc ?_ _) | (with_reducible refine Kd.C_drewN ?_ _) | (with_reducible refine Kd.C_drew ?_))); (case side2 => exact (Kd.R_reads' HO_9.out).2.1); (case side3 => repeat (first | exact (Kd.R_reads' HO_5.out).2.2 | (with_reducible refine Kd.C_alloc ?_ _) | (with_reducible refine Kd.C_drewN ?_ _) | (with_reducible refine Kd.C_drew ?_))); (case side4 => exact (Kd.R_reads' HO_5.out).2.1); rintro e w' ⟨rfl, ⟨nd, rfl⟩⟩))
                go_meet
                case rel => exact ⟨_, (true), (by first | rfl | (simp; done) | (simp [*]; done)), H', ⟨by have := HJ7.out; first | omega | exact Nat.le_refl _⟩, ⟨by (with_reducible repeat (first | apply Kd.R_alloc | apply Kd.R_drewN | apply Kd.R_drew)); exact Kd.R_mono HO_5.out (fun _ hk => hk.2.1)⟩, ⟨by (with_reducible repeat (first | apply Kd.R_alloc | apply Kd.R_drewN | apply Kd.R_drew)); exact Kd.R_mono HO_9.out (fun _ hk => hk.1)⟩, ⟨by repeat (first | (with_reducible first | exact HB.out | apply below_alloc | apply pw_below_drewN | apply below_drew1) | exact HB.out)⟩⟩
              subst c35
              have H1 : (if t167 = t159 then (laws_FnExactFirstRolls.j1 kj7 l0 a1 t158 t159 t160 t166 (t168 != t160)) else (laws_FnExactFirstRolls.j1 kj7 l0 a1 t158 t159 t160 t166 true)) = some r := by rw [if_pos rfl] at H; exact H
              clear H
              have H := H1
              clear H1
              by_cases c36 : t167 = t159
              rotate_left
              · rw [if_neg c36] at H
                have c36b0 : (t167 == t159) = false := beq_eq_false_iff_ne.mpr c36
                have c36b1 : (t167 != t159) = true := bne_iff_ne.mpr c36
                have H' := Aside0.mk H
                clear H
                obtain ⟨Ao39, co39, eo39⟩ := Kd.R_slice HO_9.out
                subst eo39
                obtain ⟨Ao40, co40, eo40⟩ := Kd.R_slice HO_5.out
                subst eo40
                go_wp2_with (first | (go_at_call 12; (with_reducible refine (laws_eqInt64S.calls kj7 _ _ t166 _ _ t158 true _ ?side1 ?side2 ?side3 ?side4 A34.out).mono ?_); (case side1 => repeat (first | exact (Kd.R_reads' HO_9.out).2.2 | (with_reducible refine Kd.C_alloc ?_ _) | (with_reducible refine Kd.C_drewN ?_ _) | (with_reducible refine Kd.C_drew ?_))); (case side2 => exact (Kd.R_reads' HO_9.out).2.1); (case side3 => repeat (first | exact (Kd.R_reads' HO_5.out).2.2 | (with_reducible refine Kd.C_alloc ?_ _) | (with_reducible refine Kd.C_drewN ?_ _) | (with_reducible refine Kd.C_drew ?_))); (case side4 => exact (Kd.R_reads' HO_5.out).2.1); rintro e w' ⟨rfl, ⟨nd, rfl⟩⟩))
                go_meet
                case rel => exact ⟨_, (true), (by first | rfl | (simp; done) | (simp [*]; done)), H', ⟨by have := HJ7.out; first | omega | exact Nat.le_refl _⟩, ⟨by (with_reducible repeat (first | apply Kd.R_alloc | apply Kd.R_drewN | apply Kd.R_drew)); exact Kd.R_mono HO_5.out (fun _ hk => hk.2.1)⟩, ⟨by (with_reducible repeat (first | apply Kd.R_alloc | apply Kd.R_drewN | apply Kd.R_drew)); exact Kd.R_mono HO_9.out (fun _ hk => hk.1)⟩, ⟨by repeat (first | (with_reducible first | exact HB.out | apply below_alloc | apply pw_below_drewN | apply below_drew1) | exact HB.out)⟩⟩
              rw [if_pos c36] at H
              have c36b0 : (t167 == t159) = true := beq_iff_eq.mpr c36
              have c36b1 : (t167 != t159) = false := bne_eq_false_iff_eq.mpr c36
              clear c36
              have H' := Aside0.mk H
              clear H
              obtain ⟨Ao37, co37, eo37⟩ := Kd.R_slice HO_9.out
              subst eo37
              obtain ⟨Ao38, co38, eo38⟩ := Kd.R_slice HO_5.out
              subst eo38
              go_wp2_with (first | (go_at_call 12; (with_reducible refine (laws_eqInt64S.calls kj7 _ _ t166 _ _ t158 true _ ?side1 ?side2 ?side3 ?side4 A34.out).mono ?_); (case side1 => repeat (first | exact (Kd.R_reads' HO_9.out).2.2 | (with_reducible refine Kd.C_alloc ?_ _) | (with_reducible refine Kd.C_drewN ?_ _) | (with_reducible refine Kd.C_drew ?_))); (case side2 => exact (Kd.R_reads' HO_9.out).2.1); (case side3 => repeat (first | exact (Kd.R_reads' HO_5.out).2.2 | (with_reducible refine Kd.C_alloc ?_ _) | (with_reducible refine Kd.C_drewN ?_ _) | (with_reducible refine Kd.C_drew ?_))); (case side4 => exact (Kd.R_reads' HO_5.out).2.1); rintro e w' ⟨rfl, ⟨nd, rfl⟩⟩))
              go_meet
              case rel => exact ⟨_, ((t168 != t160)), (by first | rfl | (simp; done) | (simp [*]; done)), H', ⟨by have := HJ7.out; first | omega | exact Nat.le_refl _⟩, ⟨by (with_reducible repeat (first | apply Kd.R_alloc | apply Kd.R_drewN | apply Kd.R_drew)); exact Kd.R_mono HO_5.out (fun _ hk => hk.2.1)⟩, ⟨by (with_reducible repeat (first | apply Kd.R_alloc | apply Kd.R_drewN | apply Kd.R_drew)); exact Kd.R_mono HO_9.out (fun _ hk => hk.1)⟩, ⟨by repeat (first | (with_reducible first | exact HB.out | apply below_alloc | apply pw_below_drewN | apply below_drew1) | exact HB.out)⟩⟩
            rw [if_pos c33] at H
            have c33b0 : decide (t176 < 0) = true := decide_eq_true c33
            clear c33
            (first | rw [c33b0] | (simp only [i64_w, i32_w]; rw [c33b0]) | skip)
            have H' := Aside0.mk H
            clear H
            go_wp2
            go_meet
            case rel => exact ⟨_, (true), (by first | rfl | (simp; done) | (simp [*]; done)), H', ⟨by have := HJ7.out; first | omega | exact Nat.le_refl _⟩, ⟨by (with_reducible repeat (first | apply Kd.R_alloc | apply Kd.R_drewN | apply Kd.R_drew)); exact Kd.R_mono HO_5.out (fun _ hk => hk.2.1)⟩, ⟨by (with_reducible repeat (first | apply Kd.R_alloc | apply Kd.R_drewN | apply Kd.R_drew)); exact Kd.R_mono HO_9.out (fun _ hk => hk.1)⟩, ⟨by repeat (first | (with_reducible first | exact HB.out | apply below_alloc | apply pw_below_drewN | apply below_drew1) | exact HB.out)⟩⟩
          case rest =>
            clear HC29
            try clear c1
            try clear c2
            try clear p2
            try clear c3
            try clear c3b0
            try clear c3b1
            try clear c9
            try clear c10
            try clear c11
            try clear c12
            try clear c13
            try clear c16
            try clear c17
            try clear c17b0
            try clear c17b1
            try clear c24
            try clear c27
            try clear c33
            try clear c33b0
            try clear c35
            try clear c36
            try clear c36b0
            try clear c36b1
            try clear p2
            obtain ⟨kq, x77_28, rfl, HA, HJ28, HO_5, HO_9, HB⟩ := hcut
            cases kq with
            | zero => exact absurd HA.out (by simp [laws_FnExactFirstRolls.j1])
            | succ kj28 =>
              have H := HA.out
              clear HA
              simp only [laws_FnExactFirstRolls.j1] at H
              by_cases c43 : x77_28 = true
              rotate_left
              · replace c43 := Bool.eq_false_iff.mpr c43
                subst c43
                have H1 : ((laws_markInt64S.f kj28 t166 1).bind fun bt179 => ((laws_heldInt64S.f kj28 bt179.2 1).bind fun t181 => (if t181 < 0 then (some false) else (if t181 = bt179.1 then ((laws_toInt64S.f kj28 l0).bind fun t182 => ((impl_FirstRolls.f kj28 t182 a1).bind fun bt185 => ((laws_eqInt64S.f kj28 bt185.1 t158).bind fun t190 => (if t190 = true then (if bt185.2.1 = t159 then (laws_FnExactFirstRolls.j2 kj28 bt179.2 bt179.1 (bt185.2.2 != t160)) else (laws_FnExactFirstRolls.j2 kj28 bt179.2 bt179.1 true)) else (laws_FnExactFirstRolls.j2 kj28 bt179.2 bt179.1 true))))) else (some false))))) = some r := by rw [if_neg (show ¬ (false = true) by decide)] at H; exact H
                clear H
                have H := H1
                clear H1
                replace H := Option.bind_eq_some_iff.mp H
                obtain ⟨⟨t179, t180⟩, A440, H⟩ := H
                replace H : ((laws_heldInt64S.f kj28 t180 1).bind fun t181 => (if t181 < 0 then (some false) else (if t181 = t179 then ((laws_toInt64S.f kj28 l0).bind fun t182 => ((impl_FirstRolls.f kj28 t182 a1).bind fun bt185 => ((laws_eqInt64S.f kj28 bt185.1 t158).bind fun t190 => (if t190 = true then (if bt185.2.1 = t159 then (laws_FnExactFirstRolls.j2 kj28 t180 t179 (bt185.2.2 != t160)) else (laws_FnExactFirstRolls.j2 kj28 t180 t179 true)) else (laws_FnExactFirstRolls.j2 kj28 t180 t179 true))))) else (some false)))) = some r := H
                have A44 := Aside0.mk A440
                clear A440
                replace H := Option.bind_eq_some_iff.mp H
                obtain ⟨t181, A450, H⟩ := H
                replace H : (if t181 < 0 then (some false) else (if t181 = t179 then ((laws_toInt64S.f kj28 l0).bind fun t182 => ((impl_FirstRolls.f kj28 t182 a1).bind fun bt185 => ((laws_eqInt64S.f kj28 bt185.1 t158).bind fun t190 => (if t190 = true then (if bt185.2.1 = t159 then (laws_FnExactFirstRolls.j2 kj28 t180 t179 (bt185.2.2 != t160)) else (laws_FnExactFirstRolls.j2 kj28 t180 t179 true)) else (laws_FnExactFirstRolls.j2 kj28 t180 t179 true))))) else (some false))) = some r := H
                have A45 := Aside0.mk A450
                clear A450
                by_cases c46 : t181 < 0
                rotate_left
                · rw [if_neg c46] at H
                  have c46b0 : decide (t181 < 0) = false := decide_eq_false c46
                  clear c46
                  by_cases c47 : t181 = t179
                  rotate_left
                  · rw [if_neg c47] at H
                    have c47b0 : (t181 == t179) = false := beq_eq_false_iff_ne.mpr c47
                    have c47b1 : (t181 != t179) = true := bne_iff_ne.mpr c47
                    exact absurd ((Option.some.inj H).trans HLAW.out) (by decide)
                  rw [if_pos c47] at H
                  have c47b0 : (t181 == t179) = true := beq_iff_eq.mpr c47
                  have c47b1 : (t181 != t179) = false := bne_eq_false_iff_eq.mpr c47
                  clear c47
                  replace H := Option.bind_eq_some_iff.mp H
                  obtain ⟨t182, A480, H⟩ := H
                  replace H : ((impl_FirstRolls.f kj28 t182 a1).bind fun bt185 => ((laws_eqInt64S.f kj28 bt185.1 t158).bind fun t190 => (if t190 = true then (if bt185.2.1 = t159 then (laws_FnExactFirstRolls.j2 kj28 t180 t179 (bt185.2.2 != t160)) else (laws_FnExactFirstRolls.j2 kj28 t180 t179 true)) else (laws_FnExactFirstRolls.j2 kj28 t180 t179 true)))) = some r := H
                  have A48 := Aside0.mk A480
                  clear A480
                  replace H := Option.bind_eq_some_iff.mp H
                  obtain ⟨⟨t185, t186, t187⟩, A490, H⟩ := H
                  replace H : ((laws_eqInt64S.f kj28 t185 t158).bind fun t190 => (if t190 = true then (if t186 = t159 then (laws_FnExactFirstRolls.j2 kj28 t180 t179 (t187 != t160)) else (laws_FnExactFirstRolls.j2 kj28 t180 t179 true)) else (laws_FnExactFirstRolls.j2 kj28 t180 t179 true))) = some r := H
                  have A49 := Aside0.mk A490
                  clear A490
                  have HC50 := Aside0.mk H
                  clear H
                  obtain ⟨Ao51, co51, eo51⟩ := Kd.R_slice HO_9.out
                  subst eo51
                  go_upto_region 23 with (first | ((with_reducible refine gate_callee (f := 13) rfl ?_); refine goesL_ (some 80) rfl rfl Try.func13 (by kernel_rfl) rfl #[.slice Ao51 t166.length co51, .int .i64 1] rfl (by (try simp only [List.map_toArray, List.map_cons, List.map_nil]); first | done | rfl | (simp only [List.length_drop, List.length_take]; rfl)) ?_; (with_reducible refine (laws_markInt64S.calls kj28 (fun k_ => some k_ = (.slice Ao51 t166.length co51 : Value).ownBlock) (.slice Ao51 t166.length co51) t166 1 t179 t180 w _ ?side1 ?side2 A44.out).mono ?_); (case side1 => repeat (first | (with_reducible first | exact HB.out | apply below_alloc | apply pw_below_drewN | apply below_drew1) | exact HB.out)); (case side2 => exact Kd.R_tight rfl HO_9.out); rintro e w52 ⟨rfl, hy0, hb, hkp⟩; refine ⟨_, rfl, ?_⟩; have n0_ := Aside0.mk (Kd.R_mono (ok' := fun k_ => some k_ ≠ (.slice Ao51 t166.length co51 : Value).ownBlock) (Kd.R_keptB (HO_5.out) hkp (fun k_ hk_ hs_ => (hk_) hs_)) (fun k_ hk_ => hk_.1)); have n1_ := Aside0.mk (Kd.R_reok rfl hy0 (fun k_ e_ => HO_9.out.1 k_ e_)); have n2_ := Aside0.mk (hb); clear HO_5; clear HO_9; clear HB; have HO_5 := n0_; have HO_9 := n1_; have HB := n2_; clear n0_ n1_ n2_; (try clear hb); (try clear hkp); (try clear hy0)) | ((with_reducible refine gate_callee (f := 14) rfl ?_); refine goesL_ (some 83) rfl rfl Try.func14 (by kernel_rfl) rfl #[.slice Ao51 t180.length co51, .int .i64 1] rfl (by (try simp only [List.map_toArray, List.map_cons, List.map_nil]); first | done | (rw [show t180.length = t166.length from (Kd.R_reads' HO_9.out).1.symm] <;> rfl) | rfl | (simp only [List.length_drop, List.length_take]; rfl)) ?_; (with_reducible refine (laws_heldInt64S.calls kj28 _ _ t180 1 t181 _ ?side1 ?side2 A45.out).mono ?_); (case side1 => repeat (first | exact (Kd.R_reads' HO_9.out).2.2 | (with_reducible refine Kd.C_alloc ?_ _) | (with_reducible refine Kd.C_drewN ?_ _) | (with_reducible refine Kd.C_drew ?_))); (case side2 => rw [show t180.length = t166.length from (Kd.R_reads' HO_9.out).1.symm]; exact (Kd.R_reads' HO_9.out).2.1); rintro e w' ⟨rfl, ⟨nd, rfl⟩⟩; refine ⟨_, rfl, ?_⟩) | ((with_reducible refine gate_callee (f := 10) rfl ?_); refine goesL_ (some 91) rfl rfl Try.func10 (by kernel_rfl) rfl #[.slice A0 l0.length c0] rfl (by (try simp only [List.map_toArray, List.map_cons, List.map_nil]); first | done | rfl | (simp only [List.length_drop, List.length_take]; rfl)) ?_; (with_reducible refine (laws_toInt64S.calls kj28 _ _ l0 t182 _ ?side1 ?side2 A48.out).mono ?_); (case side1 => repeat (first | exact (Kd.C_below HR0.out (by repeat (first | (with_reducible first | exact HB.out | apply below_alloc | apply pw_below_drewN | apply below_drew1) | exact HB.out))) | (with_reducible refine Kd.C_alloc ?_ _) | (with_reducible refine Kd.C_drewN ?_ _) | (with_reducible refine Kd.C_drew ?_))); (case side2 => exact HC0.out); rintro e w53 ⟨v183, rfl, ho0, hb⟩; refine ⟨_, rfl, ?_⟩; have n0_ := Aside0.mk (Kd.R_elder' (by (with_reducible repeat (first | apply Kd.R_alloc | apply Kd.R_drewN | apply Kd.R_drew)); exact HO_5.out) (Kd.R_base ho0) hb); have n1_ := Aside0.mk (Kd.R_elder' (by (with_reducible repeat (first | apply Kd.R_alloc | apply Kd.R_drewN | apply Kd.R_drew)); exact HO_9.out) (Kd.R_base ho0) hb); have n2_ := Aside0.mk (Kd.R_lower (Kd.R_new' (Kd.R_new' ho0 (Kd.R_lt (by (with_reducible repeat (first | apply Kd.R_alloc | apply Kd.R_drewN | apply Kd.R_drew)); exact HO_5.out))) (Kd.R_lt (by (with_reducible repeat (first | apply Kd.R_alloc | apply Kd.R_drewN | apply Kd.R_drew)); exact HO_9.out))) (below_size (by repeat (first | (with_reducible first | exact HB.out | apply below_alloc | apply pw_below_drewN | apply below_drew1) | exact HB.out)))); have n3_ := Aside0.mk (below_step (by repeat (first | (with_reducible first | exact HB.out | apply below_alloc | apply pw_below_drewN | apply below_drew1) | exact HB.out)) hb); clear HO_5; clear HO_9; clear HB; have HO_5 := n0_; have HO_9 := n1_; have HO184 := n2_; have HB := n3_; clear n0_ n1_ n2_ n3_; (try clear hb); (try clear hb2); (try clear hk); (try clear hi); (try clear ho0); obtain ⟨Ao54, co54, eo54⟩ := Kd.R_slice HO184.out; subst eo54) | ((with_reducible refine gate_callee (f := 11) rfl ?_); refine goesL_ (some 93) rfl rfl Try.func11 (by kernel_rfl) rfl #[.slice Ao54 t182.length co54, .int .i64 a1] rfl (by (try simp only [List.map_toArray, List.map_cons, List.map_nil]); first | done | rfl | (simp only [List.length_drop, List.length_take]; rfl)) ?_; (with_reducible refine (impl_FirstRolls.calls kj28 _ _ t182 a1 t185 t186 t187 _ ?side1 ?side2 A49.out).mono ?_); (case side1 => repeat (first | exact (Kd.R_reads' HO184.out).2.2 | (with_reducible refine Kd.C_alloc ?_ _) | (with_reducible refine Kd.C_drewN ?_ _) | (with_reducible refine Kd.C_drew ?_))); (case side2 => exact (Kd.R_reads' HO184.out).2.1); rintro e w55 ⟨v188, rfl, ho0, hb⟩; refine ⟨_, rfl, ?_⟩; have n0_ := Aside0.mk (Kd.R_elder' (by (with_reducible repeat (first | apply Kd.R_alloc | apply Kd.R_drewN | apply Kd.R_drew)); exact HO_5.out) (Kd.R_base ho0) hb); have n1_ := Aside0.mk (Kd.R_elder' (by (with_reducible repeat (first | apply Kd.R_alloc | apply Kd.R_drewN | apply Kd.R_drew)); exact HO_9.out) (Kd.R_base ho0) hb); have n2_ := Aside0.mk (Kd.R_elder' (by (with_reducible repeat (first | apply Kd.R_alloc | apply Kd.R_drewN | apply Kd.R_drew)); exact HO184.out) (Kd.R_base ho0) hb); have n3_ := Aside0.mk (Kd.R_lower (Kd.R_new' (Kd.R_new' (Kd.R_new' ho0 (Kd.R_lt (by (with_reducible repeat (first | apply Kd.R_alloc | apply Kd.R_drewN | apply Kd.R_drew)); exact HO_5.out))) (Kd.R_lt (by (with_reducible repeat (first | apply Kd.R_alloc | apply Kd.R_drewN | apply Kd.R_drew)); exact HO_9.out))) (Kd.R_lt (by (with_reducible repeat (first | apply Kd.R_alloc | apply Kd.R_drewN | apply Kd.R_drew)); exact HO184.out))) (below_size (by repeat (first | (with_reducible first | exact HB.out | apply below_alloc | apply pw_below_drewN | apply below_drew1) | exact HB.out)))); have n4_ := Aside0.mk (below_step (by repeat (first | (with_reducible first | exact HB.out | apply below_alloc | apply pw_below_drewN | apply below_drew1) | exact HB.out)) hb); clear HO_5; clear HO_9; clear HO184; clear HB; have HO_5 := n0_; have HO_9 := n1_; have HO184 := n2_; have HO189 := n3_; have HB := n4_; clear n0_ n1_ n2_ n3_ n4_; (try clear hb); (try clear hb2); (try clear hk); (try clear hi); (try clear ho0)))
                  (try simp only [Act.put, List.setIfInBounds_toArray, List.set_cons_zero, List.set_cons_succ])
                  go_cut [110] (fun v110 wc => ∃ (kq : Nat) (x110_49 : Bool), v110 = .bool x110_49 ∧ Aside0 (laws_FnExactFirstRolls.j2 kq t180 t179 x110_49 = some r) ∧ Aside0 (kq ≤ kj28) ∧ Aside0 (Kd.R (Kd.int .i64) 2 wc w.heap.size (fun _ => True) (.slice Ao51 t166.length co51) t180) ∧ Aside0 (Below w.heap.size w wc))
                  case first =>
                    have H := HC50.out
                    clear HC50
                    replace H := Option.bind_eq_some_iff.mp H
                    obtain ⟨t190, A560, H⟩ := H
                    replace H : (if t190 = true then (if t186 = t159 then (laws_FnExactFirstRolls.j2 kj28 t180 t179 (t187 != t160)) else (laws_FnExactFirstRolls.j2 kj28 t180 t179 true)) else (laws_FnExactFirstRolls.j2 kj28 t180 t179 true)) = some r := H
                    have A56 := Aside0.mk A560
                    clear A560
                    by_cases c57 : t190 = true
                    rotate_left
                    · replace c57 := Bool.eq_false_iff.mpr c57
                      subst c57
                      have H1 : (laws_FnExactFirstRolls.j2 kj28 t180 t179 true) = some r := by rw [if_neg (show ¬ (false = true) by decide)] at H; exact H
                      clear H
                      have H := H1
                      clear H1
                      have H' := Aside0.mk H
                      clear H
                      obtain ⟨Ao63, co63, eo63⟩ := Kd.R_slice HO189.out
                      subst eo63
                      obtain ⟨Ao64, co64, eo64⟩ := Kd.R_slice HO_5.out
                      subst eo64
                      go_wp2_with (first | ((with_reducible refine gate_callee (f := 12) rfl ?_); refine goesL_ (some 99) rfl rfl Try.func12 (by kernel_rfl) rfl #[.slice Ao63 t185.length co63, .slice Ao64 t158.length co64] rfl (by (try simp only [List.map_toArray, List.map_cons, List.map_nil]); first | done | rfl | (simp only [List.length_drop, List.length_take]; rfl)) ?_; (with_reducible refine (laws_eqInt64S.calls kj28 _ _ t185 _ _ t158 false _ ?side1 ?side2 ?side3 ?side4 A56.out).mono ?_); (case side1 => repeat (first | exact (Kd.R_reads' HO189.out).2.2 | (with_reducible refine Kd.C_alloc ?_ _) | (with_reducible refine Kd.C_drewN ?_ _) | (with_reducible refine Kd.C_drew ?_))); (case side2 => exact (Kd.R_reads' HO189.out).2.1); (case side3 => repeat (first | exact (Kd.R_reads' HO_5.out).2.2 | (with_reducible refine Kd.C_alloc ?_ _) | (with_reducible refine Kd.C_drewN ?_ _) | (with_reducible refine Kd.C_drew ?_))); (case side4 => exact (Kd.R_reads' HO_5.out).2.1); rintro e w' ⟨rfl, ⟨nd, rfl⟩⟩; refine ⟨_, rfl, ?_⟩))
                      go_meet
                      case rel => exact ⟨_, (true), (by first | rfl | (simp; done) | (simp [*]; done)), H', ⟨by have := HJ7.out; have := HJ28.out; first | omega | exact Nat.le_refl _⟩, ⟨by (with_reducible repeat (first | apply Kd.R_alloc | apply Kd.R_drewN | apply Kd.R_drew)); exact Kd.R_mono HO_9.out (fun _ hk => trivial)⟩, ⟨by repeat (first | (with_reducible first | exact HB.out | apply below_alloc | apply pw_below_drewN | apply below_drew1) | exact HB.out)⟩⟩
                    subst c57
                    have H1 : (if t186 = t159 then (laws_FnExactFirstRolls.j2 kj28 t180 t179 (t187 != t160)) else (laws_FnExactFirstRolls.j2 kj28 t180 t179 true)) = some r := by rw [if_pos rfl] at H; exact H
                    clear H
                    have H := H1
                    clear H1
                    by_cases c58 : t186 = t159
                    rotate_left
                    · rw [if_neg c58] at H
                      have c58b0 : (t186 == t159) = false := beq_eq_false_iff_ne.mpr c58
                      have c58b1 : (t186 != t159) = true := bne_iff_ne.mpr c58
                      (first | rw [c58b0] | (simp only [i64_w, i32_w]; rw [c58b0]) | skip)
                      have H' := Aside0.mk H
                      clear H
                      obtain ⟨Ao61, co61, eo61⟩ := Kd.R_slice HO189.out
                      subst eo61
                      obtain ⟨Ao62, co62, eo62⟩ := Kd.R_slice HO_5.out
                      subst eo62
                      go_wp2_with (first | ((with_reducible refine gate_callee (f := 12) rfl ?_); refine goesL_ (some 99) rfl rfl Try.func12 (by kernel_rfl) rfl #[.slice Ao61 t185.length co61, .slice Ao62 t158.length co62] rfl (by (try simp only [List.map_toArray, List.map_cons, List.map_nil]); first | done | rfl | (simp only [List.length_drop, List.length_take]; rfl)) ?_; (with_reducible refine (laws_eqInt64S.calls kj28 _ _ t185 _ _ t158 true _ ?side1 ?side2 ?side3 ?side4 A56.out).mono ?_); (case side1 => repeat (first | exact (Kd.R_reads' HO189.out).2.2 | (with_reducible refine Kd.C_alloc ?_ _) | (with_reducible refine Kd.C_drewN ?_ _) | (with_reducible refine Kd.C_drew ?_))); (case side2 => exact (Kd.R_reads' HO189.out).2.1); (case side3 => repeat (first | exact (Kd.R_reads' HO_5.out).2.2 | (with_reducible refine Kd.C_alloc ?_ _) | (with_reducible refine Kd.C_drewN ?_ _) | (with_reducible refine Kd.C_drew ?_))); (case side4 => exact (Kd.R_reads' HO_5.out).2.1); rintro e w' ⟨rfl, ⟨nd, rfl⟩⟩; refine ⟨_, rfl, ?_⟩))
                      go_meet
                      case rel => exact ⟨_, (true), (by first | rfl | (simp; done) | (simp [*]; done)), H', ⟨by have := HJ7.out; have := HJ28.out; first | omega | exact Nat.le_refl _⟩, ⟨by (with_reducible repeat (first | apply Kd.R_alloc | apply Kd.R_drewN | apply Kd.R_drew)); exact Kd.R_mono HO_9.out (fun _ hk => trivial)⟩, ⟨by repeat (first | (with_reducible first | exact HB.out | apply below_alloc | apply pw_below_drewN | apply below_drew1) | exact HB.out)⟩⟩
                    rw [if_pos c58] at H
                    have c58b0 : (t186 == t159) = true := beq_iff_eq.mpr c58
                    have c58b1 : (t186 != t159) = false := bne_eq_false_iff_eq.mpr c58
                    clear c58
                    (first | rw [c58b0] | (simp only [i64_w, i32_w]; rw [c58b0]) | skip)
                    have H' := Aside0.mk H
                    clear H
                    obtain ⟨Ao59, co59, eo59⟩ := Kd.R_slice HO189.out
                    subst eo59
                    obtain ⟨Ao60, co60, eo60⟩ := Kd.R_slice HO_5.out
                    subst eo60
                    go_wp2_with (first | ((with_reducible refine gate_callee (f := 12) rfl ?_); refine goesL_ (some 99) rfl rfl Try.func12 (by kernel_rfl) rfl #[.slice Ao59 t185.length co59, .slice Ao60 t158.length co60] rfl (by (try simp only [List.map_toArray, List.map_cons, List.map_nil]); first | done | rfl | (simp only [List.length_drop, List.length_take]; rfl)) ?_; (with_reducible refine (laws_eqInt64S.calls kj28 _ _ t185 _ _ t158 true _ ?side1 ?side2 ?side3 ?side4 A56.out).mono ?_); (case side1 => repeat (first | exact (Kd.R_reads' HO189.out).2.2 | (with_reducible refine Kd.C_alloc ?_ _) | (with_reducible refine Kd.C_drewN ?_ _) | (with_reducible refine Kd.C_drew ?_))); (case side2 => exact (Kd.R_reads' HO189.out).2.1); (case side3 => repeat (first | exact (Kd.R_reads' HO_5.out).2.2 | (with_reducible refine Kd.C_alloc ?_ _) | (with_reducible refine Kd.C_drewN ?_ _) | (with_reducible refine Kd.C_drew ?_))); (case side4 => exact (Kd.R_reads' HO_5.out).2.1); rintro e w' ⟨rfl, ⟨nd, rfl⟩⟩; refine ⟨_, rfl, ?_⟩))
                    go_meet
                    case rel => exact ⟨_, ((t187 != t160)), (by first | rfl | (simp; done) | (simp [*]; done)), H', ⟨by have := HJ7.out; have := HJ28.out; first | omega | exact Nat.le_refl _⟩, ⟨by (with_reducible repeat (first | apply Kd.R_alloc | apply Kd.R_drewN | apply Kd.R_drew)); exact Kd.R_mono HO_9.out (fun _ hk => trivial)⟩, ⟨by repeat (first | (with_reducible first | exact HB.out | apply below_alloc | apply pw_below_drewN | apply below_drew1) | exact HB.out)⟩⟩
                  case rest =>
                    clear HC50
                    try clear c1
                    try clear c2
                    try clear p2
                    try clear c3
                    try clear c3b0
                    try clear c3b1
                    try clear c4
                    try clear c5
                    try clear c9
                    try clear c10
                    try clear c11
                    try clear c12
                    try clear c13
                    try clear c14
                    try clear c16
                    try clear c17
                    try clear c17b0
                    try clear c17b1
                    try clear c24
                    try clear c27
                    try clear c33
                    try clear c33b0
                    try clear c35
                    try clear c36
                    try clear c36b0
                    try clear c36b1
                    try clear c43
                    try clear c46
                    try clear c46b0
                    try clear c47
                    try clear c47b0
                    try clear c47b1
                    try clear c57
                    try clear c58
                    try clear c58b0
                    try clear c58b1
                    try clear p2
                    obtain ⟨kq, x110_49, rfl, HA, HJ49, HO_9, HB⟩ := hcut
                    have hl9_49 := (Kd.R_reads' HO_9.out).1
                    rw [hl9_49] at HO_9
                    (try simp only [hl9_49])
                    cases kq with
                    | zero => exact absurd HA.out (by simp [laws_FnExactFirstRolls.j2])
                    | succ kj49 =>
                      have H := HA.out
                      clear HA
                      simp only [laws_FnExactFirstRolls.j2] at H
                      by_cases c65 : x110_49 = true
                      rotate_left
                      · replace c65 := Bool.eq_false_iff.mpr c65
                        subst c65
                        have H1 : ((laws_heldInt64S.f kj49 t180 1).bind fun t191 => (if t191 < 0 then (some false) else (if t191 = t179 then (some true) else (some false)))) = some r := by rw [if_neg (show ¬ (false = true) by decide)] at H; exact H
                        clear H
                        have H := H1
                        clear H1
                        replace H := Option.bind_eq_some_iff.mp H
                        obtain ⟨t191, A660, H⟩ := H
                        replace H : (if t191 < 0 then (some false) else (if t191 = t179 then (some true) else (some false))) = some r := H
                        have A66 := Aside0.mk A660
                        clear A660
                        by_cases c67 : t191 < 0
                        rotate_left
                        · rw [if_neg c67] at H
                          have c67b0 : decide (t191 < 0) = false := decide_eq_false c67
                          clear c67
                          by_cases c68 : t191 = t179
                          rotate_left
                          · rw [if_neg c68] at H
                            have c68b0 : (t191 == t179) = false := beq_eq_false_iff_ne.mpr c68
                            have c68b1 : (t191 != t179) = true := bne_iff_ne.mpr c68
                            exact absurd ((Option.some.inj H).trans HLAW.out) (by decide)
                          rw [if_pos c68] at H
                          have c68b0 : (t191 == t179) = true := beq_iff_eq.mpr c68
                          have c68b1 : (t191 != t179) = false := bne_eq_false_iff_eq.mpr c68
                          clear c68
                          obtain rfl := Option.some.inj H
                          go_wp2_with (first | ((with_reducible refine gate_callee (f := 14) rfl ?_); refine goesL_ (some 113) rfl rfl Try.func14 (by kernel_rfl) rfl #[.slice Ao51 t180.length co51, .int .i64 1] rfl (by (try simp only [List.map_toArray, List.map_cons, List.map_nil]); first | done | rfl | (simp only [List.length_drop, List.length_take]; rfl)) ?_; (with_reducible refine (laws_heldInt64S.calls kj49 _ _ t180 1 t191 _ ?side1 ?side2 A66.out).mono ?_); (case side1 => repeat (first | exact (Kd.R_reads' HO_9.out).2.2 | (with_reducible refine Kd.C_alloc ?_ _) | (with_reducible refine Kd.C_drewN ?_ _) | (with_reducible refine Kd.C_drew ?_))); (case side2 => exact (Kd.R_reads' HO_9.out).2.1); rintro e w' ⟨rfl, ⟨nd, rfl⟩⟩; refine ⟨_, rfl, ?_⟩))
                          go_ret
                          exact ⟨by first | rfl | (simp [errW_none, errW_some] <;> rfl) | (simp [*, errW_none, errW_some] <;> rfl), by repeat (first | (with_reducible first | exact HB.out | apply below_alloc | apply pw_below_drewN | apply below_drew1) | exact HB.out)⟩
                        rw [if_pos c67] at H
                        have c67b0 : decide (t191 < 0) = true := decide_eq_true c67
                        clear c67
                        exact absurd ((Option.some.inj H).trans HLAW.out) (by decide)
                      subst c65
                      have H1 : (some false) = some r := by rw [if_pos rfl] at H; exact H
                      clear H
                      have H := H1
                      clear H1
                      exact absurd ((Option.some.inj H).trans HLAW.out) (by decide)
                rw [if_pos c46] at H
                have c46b0 : decide (t181 < 0) = true := decide_eq_true c46
                clear c46
                exact absurd ((Option.some.inj H).trans HLAW.out) (by decide)
              subst c43
              have H1 : (some false) = some r := by rw [if_pos rfl] at H; exact H
              clear H
              have H := H1
              clear H1
              exact absurd ((Option.some.inj H).trans HLAW.out) (by decide)
        subst c24
        have H1 : (some false) = some r := by rw [if_pos rfl] at H; exact H
        clear H
        have H := H1
        clear H1
        exact absurd ((Option.some.inj H).trans HLAW.out) (by decide)
  rw [if_pos c3] at H
  have c3b0 : decide (1048576 < (l0.length : Int)) = true := decide_eq_true c3
  have c3b1 : decide (1048576 < l0.length) = true := decide_eq_true (by omega)
  clear c3
  obtain rfl := Option.some.inj H
  go_enter Try.func3, Try.ntmps3
  go_wp2
  go_ret
  exact ⟨by first | rfl | (simp [errW_none, errW_some] <;> rfl) | (simp [*, errW_none, errW_some] <;> rfl), by repeat (first | (with_reducible first | exact HB.out | apply below_alloc | apply pw_below_drewN | apply below_drew1) | exact HB.out)⟩
def laws_FnExactFirstRolls.Pure : Prop := ∀ (l0 : List Int) (a1 : Int), l0.length ≤ maxLen → l0.length * 8 ≤ 140737488351232 → (∀ x ∈ l0, (Lit.int .i64 x).wf = true) → (Lit.int .i64 a1).wf = true → ∃ k, laws_FnExactFirstRolls.f k l0 a1 = some true
theorem laws_FnExactFirstRolls.walk (P : laws_FnExactFirstRolls.Pure) (a0 : Option Addr) (len0 cap0 : Nat) (z0 : List Int) (a1 : Int) (w : World) (w0 : (a0 = none ∧ len0 = 0 ∧ cap0 = 0 ∧ z0 = []) ∨ ∃ x, a0 = some x ∧ len0 ≤ cap0 ∧ cap0 ≤ maxLen ∧ z0.length = cap0 ∧ (∀ i, i < z0.length → w.cell? (x.add i) = some (.int .i64 (z0.getD i 0))) ∧ ∀ n ∈ z0, (Lit.int .i64 n).wf = true) (y0 : len0 * 8 ≤ 140737488351232) (w1 : (Lit.int .i64 a1).wf = true) :
    Calls Try.prog 3 #[.slice a0 len0 cap0, .int .i64 a1] w fun e w' => e = .returned (.bool true) ∧ Below w.heap.size w w' := by
  obtain ⟨l0, rfl, hr0, hm0, hw0, hc0⟩ := ReadsInt.ofRowC w0
  obtain ⟨k, h⟩ := P l0 a1 hm0 y0 hw0 w1
  refine (laws_FnExactFirstRolls.calls k _ _ l0 a1 true w (Kd.C_of_reads (d := (0 : Int)) (h1 := fun _ => rfl) hr0) hc0 h).mono ?_
  rintro e w' ⟨rfl, hd⟩
  exact ⟨rfl, hd⟩
end Go.Proofs.Ytipdmnibjkdpcaa.P

namespace Go.Proofs.Ytipdmnibjkdpcaa.Pure
open Go.RowKit Go.Proofs.Ytipdmnibjkdpcaa.P Go.Proofs.YtipdmnibjkdpcaaW.PrintWords Go.Proofs.YtipdmnibjkdpcaaW.PrintLast
set_option linter.unusedVariables false
set_option linter.unusedSimpArgs false
theorem EvG {α : Type} {g : Nat → Option α} {r : α} (h : Ev g r) : ∃ K, ∀ k, K ≤ k → g k = some r := h
theorem EvI {α : Type} {g : Nat → Option α} {r : α} (K : Nat) (h : ∀ k, K ≤ k → g k = some r) : Ev g r := ⟨K, h⟩
theorem wN (i : Nat) (h : i < 4611686018427387904) : wrap64 ((i : Int) + 1) = ((i + 1 : Nat) : Int) := by
  unfold wrap64; omega
theorem rdN (l : List Int) (i : Nat) : rd l (i : Int) = l.getD i 0 := rfl
theorem getD_eq (l : List Int) (i : Nat) (h : i < l.length) : l.getD i 0 = l[i] := by
  rw [List.getD_eq_getElem?_getD, List.getElem?_eq_getElem h]; rfl
theorem getD_mem (l : List Int) (i : Nat) (h : i < l.length) : l.getD i 0 ∈ l := by rw [getD_eq l i h]; exact List.getElem_mem h
theorem list_ext (a b : List Int) (hl : a.length = b.length) (h : ∀ j, j < b.length → a.getD j 0 = b.getD j 0) : a = b := by
  apply List.ext_getElem hl
  intro i h1 h2
  have := h i h2
  rwa [getD_eq a i h1, getD_eq b i h2] at this
theorem getD_set (l : List Int) (i j : Nat) (v : Int) (h : i < l.length) : (l.set i v).getD j 0 = if i = j then v else l.getD j 0 := by
  simp only [List.getD_eq_getElem?_getD, List.getElem?_set]
  by_cases e : i = j
  · subst e; simp [h]
  · simp [e]
end Go.Proofs.Ytipdmnibjkdpcaa.Pure

namespace Go.Proofs.Ytipdmnibjkdpcaa.Pure
open Go.RowKit Go.Proofs.Ytipdmnibjkdpcaa.P Go.Proofs.YtipdmnibjkdpcaaW.PrintWords Go.Proofs.YtipdmnibjkdpcaaW.PrintLast
set_option linter.unusedVariables false
set_option linter.unusedSimpArgs false
theorem toI_l0 (l : List Int) (hb : l.length ≤ 17592186044415) : ∀ d i x, l.length - i = d → i ≤ l.length → x.length = l.length → (∀ j, j < i → x.getD j 0 = l.getD j 0) → Ev (fun k => laws_toInt64S.l0 k l x (i : Int)) l := by
  intro d
  induction d with
  | zero =>
    intro i x hd hi hx hj
    refine Ev.step (f := fun _ => some x) (fun k => ?_) ?_
    · rw [laws_toInt64S.l0, if_neg (by omega)]
    · have : x = l := list_ext x l hx (fun j h => hj j (by omega))
      rw [this]; exact Ev.now l
  | succ d ih =>
    intro i x hd hi hx hj
    refine Ev.step (fun k => ?_) (ih (i + 1) (x.set i (l.getD i 0)) (by omega) (by omega) (by simpa using hx) ?_)
    · rw [laws_toInt64S.l0, if_pos (by omega), if_pos (by omega), if_pos (by omega), wN i (by omega), rdN, Int.toNat_natCast]
    · intro j h
      rw [getD_set x i j _ (by omega)]
      by_cases e : i = j
      · rw [if_pos e, e]
      · rw [if_neg e]; exact hj j (by omega)
theorem toI (l : List Int) (hb : l.length ≤ 17592186044415) : Ev (fun k => laws_toInt64S.f k l) l := by
  refine Ev.congr (f := fun k => laws_toInt64S.l0 k l (List.replicate l.length 0) ((0 : Nat) : Int)) (fun k => ?_) (toI_l0 l hb _ 0 _ rfl (Nat.zero_le _) (by simp) (fun j h => absurd h (Nat.not_lt_zero _)))
  simp only [laws_toInt64S.f, Int.toNat_natCast]
  rw [if_pos (by omega), if_pos (by omega)]; rfl
theorem eqI_l0 (l : List Int) (hb : l.length ≤ 17592186044415) : ∀ d i, l.length - i = d → i ≤ l.length → Ev (fun k => laws_eqInt64S.l0 k l l (i : Int)) true := by
  intro d
  induction d with
  | zero =>
    intro i hd hi
    refine Ev.step (f := fun _ => some true) (fun k => ?_) (Ev.now true)
    rw [laws_eqInt64S.l0, if_neg (by omega)]
  | succ d ih =>
    intro i hd hi
    refine Ev.step (fun k => ?_) (ih (i + 1) (by omega) (by omega))
    rw [laws_eqInt64S.l0, if_pos (by omega), if_pos (by omega), if_pos (by omega), if_pos rfl, wN i (by omega)]
theorem eqI (l : List Int) (hb : l.length ≤ 17592186044415) : Ev (fun k => laws_eqInt64S.f k l l) true := by
  refine Ev.congr (f := fun k => laws_eqInt64S.l0 k l l ((0 : Nat) : Int)) (fun k => ?_) (eqI_l0 l hb _ 0 rfl (Nat.zero_le _))
  simp only [laws_eqInt64S.f, if_true]; rfl
def iota (m : Nat) : Nat → List Int
  | 0 => []
  | n + 1 => (m : Int) :: iota (m + 1) n
theorem iota_len (m n : Nat) : (iota m n).length = n := by
  induction n generalizing m with
  | zero => rfl
  | succ n ih => simp [iota, ih]
theorem iota_at (m n j : Nat) (h : j < n) : (iota m n).getD j 0 = ((m + j : Nat) : Int) := by
  induction n generalizing m j with
  | zero => omega
  | succ n ih =>
    cases j with
    | zero => rfl
    | succ j =>
      have := ih (m + 1) j (by omega)
      simp only [iota, List.getD_cons_succ, this]
      omega
theorem markI_l0 (n m : Nat) (hb : n ≤ 17592186044415) (hm : m ≤ 17592186044415) : ∀ d i x, n - i = d → i ≤ n → x.length = n → (∀ j, j < i → x.getD j 0 = ((m + j : Nat) : Int)) →
    Ev (fun k => laws_markInt64S.l0 k x ((m + i : Nat) : Int) (i : Int)) (((m + n : Nat) : Int), iota m n) := by
  intro d
  induction d with
  | zero =>
    intro i x hd hi hx hj
    obtain rfl : i = n := by omega
    refine Ev.step (f := fun _ => some (((m + i : Nat) : Int), x)) (fun k => ?_) ?_
    · rw [laws_markInt64S.l0, if_neg (by omega)]
    · have : x = iota m i := list_ext x _ (by rw [iota_len]; exact hx) (fun j h => by rw [iota_len] at h; rw [hj j h, iota_at m i j h])
      rw [this]; exact Ev.now _
  | succ d ih =>
    intro i x hd hi hx hj
    refine Ev.step (fun k => ?_) (ih (i + 1) (x.set i ((m + i : Nat) : Int)) (by omega) (by omega) (by simpa using hx) ?_)
    · rw [laws_markInt64S.l0, if_pos (by omega), if_pos (by omega), wN i (by omega), wN (m + i) (by omega), Int.toNat_natCast]; rfl
    · intro j h
      rw [getD_set x i j _ (by omega)]
      by_cases e : i = j
      · rw [if_pos e, e]
      · rw [if_neg e]; exact hj j (by omega)
theorem markI (l : List Int) (m : Nat) (hb : l.length ≤ 17592186044415) (hm : m ≤ 17592186044415) : Ev (fun k => laws_markInt64S.f k l (m : Int)) (((m + l.length : Nat) : Int), iota m l.length) :=
  markI_l0 l.length m hb hm _ 0 l rfl (Nat.zero_le _) rfl (fun j h => absurd h (Nat.not_lt_zero _))
theorem heldI_l0 (n m : Nat) (hb : n ≤ 17592186044415) (hm : m ≤ 17592186044415) : ∀ d i, n - i = d → i ≤ n → Ev (fun k => laws_heldInt64S.l0 k (iota m n) ((m + i : Nat) : Int) (i : Int)) ((m + n : Nat) : Int) := by
  intro d
  induction d with
  | zero =>
    intro i hd hi
    obtain rfl : i = n := by omega
    refine Ev.step (f := fun _ => some (((m + i : Nat) : Int))) (fun k => ?_) (Ev.now _)
    rw [laws_heldInt64S.l0, iota_len, if_neg (by omega)]
  | succ d ih =>
    intro i hd hi
    refine Ev.step (fun k => ?_) (ih (i + 1) (by omega) (by omega))
    rw [laws_heldInt64S.l0, iota_len, if_pos (by omega), if_pos (by omega), rdN, iota_at m n i (by omega), if_pos rfl, wN i (by omega), wN (m + i) (by omega)]; rfl
theorem heldI (n m : Nat) (hb : n ≤ 17592186044415) (hm : m ≤ 17592186044415) : Ev (fun k => laws_heldInt64S.f k (iota m n) (m : Int)) ((m + n : Nat) : Int) :=
  heldI_l0 n m hb hm _ 0 rfl (Nat.zero_le _)
end Go.Proofs.Ytipdmnibjkdpcaa.Pure

namespace Go.Proofs.Ytipdmnibjkdpcaa.Pure
open Go.RowKit Go.Proofs.Ytipdmnibjkdpcaa.P Go.Proofs.YtipdmnibjkdpcaaW.PrintWords Go.Proofs.YtipdmnibjkdpcaaW.PrintLast
set_option linter.unusedVariables false
set_option linter.unusedSimpArgs false
theorem inFR (a lo hi : Int) : spec_l00In.f a lo hi = some (decide (lo ≤ a) && decide (a ≤ hi)) := by
  unfold spec_l00In.f; by_cases h : lo ≤ a <;> simp [h]
theorem withinFR (a lo hi : Int) : impl_within.f a lo hi = some (decide (lo ≤ a) && decide (a ≤ hi)) := by
  unfold impl_within.f; by_cases h : lo ≤ a <;> simp [h]
theorem areWR (p : List Int) (lo hi : Int) : ∃ b, impl_areWithin.f p lo hi = some b ∧ (b = true ↔ ∀ j, j < p.length → lo ≤ p.getD j 0 ∧ p.getD j 0 ≤ hi) := by
  refine ⟨_, rfl, ?_⟩
  rw [List.all_eq_true]
  constructor
  · intro h j hj
    have := h _ (getD_mem p j hj)
    simpa [Bool.and_eq_true, decide_eq_true_eq] using this
  · intro h x hx
    obtain ⟨j, hj, rfl⟩ := List.mem_iff_getElem.1 hx
    have := h j hj
    rw [getD_eq p j hj] at this
    simpa [Bool.and_eq_true, decide_eq_true_eq] using this
theorem rolls_l1 (l : List Int) (a : Int) (hb : l.length ≤ 1000) : ∀ d i, l.length - i = d → i ≤ l.length → ∃ c, Ev (fun k => spec_l02Rolls.l1 k l a (i : Int)) c ∧ ((c = 0 ∧ ∀ j, i ≤ j → j < l.length → l.getD j 0 ≤ a) ∨ (c = 6 ∧ ∃ j, i ≤ j ∧ j < l.length ∧ a < l.getD j 0)) := by
  intro d
  induction d with
  | zero =>
    intro i hd hi
    refine ⟨0, Ev.step (f := fun _ => some 0) (fun k => ?_) (Ev.now _), Or.inl ⟨rfl, fun j h1 h2 => by omega⟩⟩
    rw [spec_l02Rolls.l1, if_neg (by omega)]
  | succ d ih =>
    intro i hd hi
    by_cases c : l.getD i 0 > a
    · refine ⟨6, Ev.step (f := fun _ => some 6) (fun k => ?_) (Ev.now _), Or.inr ⟨rfl, i, Nat.le_refl _, by omega, c⟩⟩
      rw [spec_l02Rolls.l1, if_pos (by omega), if_pos (by omega), rdN, if_pos c]
    · obtain ⟨r, r1, r2⟩ := ih (i + 1) (by omega) (by omega)
      refine ⟨r, Ev.step (fun k => ?_) r1, ?_⟩
      · rw [spec_l02Rolls.l1, if_pos (by omega), if_pos (by omega), rdN, if_neg c, wN i (by omega)]
      · rcases r2 with ⟨e, h⟩ | ⟨e, j, h1, h2, h3⟩
        · refine Or.inl ⟨e, fun j h1 h2 => ?_⟩
          by_cases q : j = i
          · subst q; omega
          · exact h j (by omega) h2
        · exact Or.inr ⟨e, j, by omega, h2, h3⟩
theorem rolls_l0 (l : List Int) (a : Int) (hb : l.length ≤ 1000) : ∀ d i, l.length - i = d → i ≤ l.length → ∃ c, Ev (fun k => spec_l02Rolls.l0 k l a (i : Int)) c ∧
    ((c = 2 ∧ ∃ j, i ≤ j ∧ j < l.length ∧ ¬ (1 ≤ l.getD j 0 ∧ l.getD j 0 ≤ 400)) ∨ ((∀ j, i ≤ j → j < l.length → 1 ≤ l.getD j 0 ∧ l.getD j 0 ≤ 400) ∧ ((c = 0 ∧ ∀ j, j < l.length → l.getD j 0 ≤ a) ∨ (c = 6 ∧ ∃ j, j < l.length ∧ a < l.getD j 0)))) := by
  intro d
  induction d with
  | zero =>
    intro i hd hi
    have hi' : l.length ≤ i := by omega
    obtain ⟨r, r1, r2⟩ := rolls_l1 l a hb _ 0 rfl (Nat.zero_le _)
    refine ⟨r, Ev.step (fun k => ?_) r1, Or.inr ⟨fun j h1 h2 => absurd (Nat.lt_of_le_of_lt h1 h2) (Nat.not_lt.2 hi'), ?_⟩⟩
    · rw [spec_l02Rolls.l0, if_neg (by clear r2; omega)]; rfl
    · rcases r2 with ⟨e, h⟩ | ⟨e, j, h1, h2, h3⟩
      · exact Or.inl ⟨e, fun j hj => h j (Nat.zero_le _) hj⟩
      · exact Or.inr ⟨e, j, h2, h3⟩
  | succ d ih =>
    intro i hd hi
    by_cases c : 1 ≤ l.getD i 0 ∧ l.getD i 0 ≤ 400
    · obtain ⟨r, r1, r2⟩ := ih (i + 1) (by omega) (by omega)
      refine ⟨r, Ev.step (fun k => ?_) r1, ?_⟩
      · rw [spec_l02Rolls.l0, if_pos (by omega), if_pos (by omega), rdN, inFR, Option.bind_some, if_pos (by simp only [Bool.and_eq_true, decide_eq_true_eq]; exact c), wN i (by omega)]
      · rcases r2 with ⟨e, j, h1, h2, h3⟩ | ⟨h, h2⟩
        · exact Or.inl ⟨e, j, by omega, h2, h3⟩
        · refine Or.inr ⟨fun j h1 h2 => ?_, h2⟩
          by_cases q : j = i
          · subst q; exact c
          · exact h j (by omega) h2
    · refine ⟨2, Ev.step (f := fun _ => some 2) (fun k => ?_) (Ev.now _), Or.inl ⟨rfl, i, Nat.le_refl _, by omega, c⟩⟩
      rw [spec_l02Rolls.l0, if_pos (by omega), if_pos (by omega), rdN, inFR, Option.bind_some, if_neg (by simp only [Bool.and_eq_true, decide_eq_true_eq]; exact c)]
theorem bothRolls (l : List Int) (a bu : Int) : ∃ c, Ev (fun k => spec_l02Rolls.f k l a (decide (0 ≤ bu) && decide (bu ≤ 20000))) c ∧ Ev (fun k => impl_rollsCode.f k l a bu) c ∧ (c = 0 → l.length ≤ 10 ∧ 1 ≤ a ∧ a ≤ 400 ∧ 0 ≤ bu ∧ bu ≤ 20000 ∧ ∀ j, j < l.length → 1 ≤ l.getD j 0 ∧ l.getD j 0 ≤ a) := by
  by_cases c0 : (l.length : Int) > 10
  · refine ⟨3, EvI 0 fun k _ => ?_, EvI 0 fun k _ => ?_, fun h => by omega⟩
    · rw [spec_l02Rolls.f, if_pos c0]
    · rw [impl_rollsCode.f, if_pos c0]
  · by_cases c1 : 1 ≤ a ∧ a ≤ 400
    · have e1 : (decide (1 ≤ a) && decide (a ≤ 400)) = true := by simp only [Bool.and_eq_true, decide_eq_true_eq]; exact c1
      obtain ⟨b1, f1, g1⟩ := areWR l 1 400
      obtain ⟨b2, f2, g2⟩ := areWR l 1 a
      obtain ⟨r, r1, r2⟩ := rolls_l0 l a (by omega) _ 0 rfl (Nat.zero_le _)
      obtain ⟨K, r1⟩ := EvG r1
      cases hb : (decide (0 ≤ bu) && decide (bu ≤ 20000)) with
      | false =>
        refine ⟨2, EvI 1 fun k hk => ?_, EvI 1 fun k hk => ?_, fun h => by omega⟩
        · obtain ⟨k, rfl⟩ : ∃ m, k = m + 1 := ⟨k - 1, by omega⟩
          rw [spec_l02Rolls.f, if_neg c0, inFR, Option.bind_some, if_pos e1, spec_l02Rolls.j0, if_pos (by simp)]
        · obtain ⟨k, rfl⟩ : ∃ m, k = m + 1 := ⟨k - 1, by omega⟩
          rw [impl_rollsCode.f, if_neg c0, withinFR, Option.bind_some, if_pos e1, f1, Option.bind_some]
          cases b1 with
          | true => rw [if_pos rfl, withinFR, Option.bind_some, hb, impl_rollsCode.j0, if_pos (by simp)]
          | false => rw [if_neg (by simp), impl_rollsCode.j0, if_pos rfl]
      | true =>
        simp only [Bool.and_eq_true, decide_eq_true_eq] at hb
        have hb' : (decide (0 ≤ bu) && decide (bu ≤ 20000)) = true := by simp only [Bool.and_eq_true, decide_eq_true_eq]; exact hb
        have eS : Ev (fun k => spec_l02Rolls.f k l a true) r := EvI (K + 1) fun k hk => by
          obtain ⟨k, rfl⟩ : ∃ m, k = m + 1 := ⟨k - 1, by omega⟩
          rw [spec_l02Rolls.f, if_neg c0, inFR, Option.bind_some, if_pos e1, spec_l02Rolls.j0, if_neg (by simp)]; exact r1 k (by omega)
        rcases r2 with ⟨e, j, _, h2, h3⟩ | ⟨h1, h2⟩
        · have hb1 : b1 = false := by
            cases b1 with
            | false => rfl
            | true => exact absurd (g1.1 rfl j h2) h3
          refine ⟨r, eS, EvI 1 fun k hk => ?_, fun h => by omega⟩
          obtain ⟨k, rfl⟩ : ∃ m, k = m + 1 := ⟨k - 1, by omega⟩
          rw [impl_rollsCode.f, if_neg c0, withinFR, Option.bind_some, if_pos e1, f1, Option.bind_some, hb1, if_neg (by simp), impl_rollsCode.j0, if_pos rfl, e]
        · have hb1 : b1 = true := g1.2 (fun j hj => h1 j (Nat.zero_le _) hj)
          refine ⟨r, eS, EvI 1 fun k hk => ?_, fun h => ?_⟩
          · obtain ⟨k, rfl⟩ : ∃ m, k = m + 1 := ⟨k - 1, by omega⟩
            rw [impl_rollsCode.f, if_neg c0, withinFR, Option.bind_some, if_pos e1, f1, Option.bind_some, hb1, if_pos rfl, withinFR, Option.bind_some, hb', impl_rollsCode.j0, if_neg (by simp), f2, Option.bind_some, impl_unless.f]
            rcases h2 with ⟨e, h⟩ | ⟨e, j, hj, h⟩
            · rw [g2.2 (fun j hj => ⟨(h1 j (Nat.zero_le _) hj).1, h j hj⟩), if_pos rfl, Option.bind_some, e]
            · have : b2 = false := by
                cases b2 with
                | false => rfl
                | true => have := (g2.1 rfl j hj).2; omega
              rw [this, if_neg (by simp), Option.bind_some, e]
          · rcases h2 with ⟨e, h⟩ | ⟨e, _⟩
            · exact ⟨by omega, c1.1, c1.2, hb.1, hb.2, fun j hj => ⟨(h1 j (Nat.zero_le _) hj).1, h j hj⟩⟩
            · omega
    · have e1 : ¬ ((decide (1 ≤ a) && decide (a ≤ 400)) = true) := by simp only [Bool.and_eq_true, decide_eq_true_eq]; exact c1
      refine ⟨2, EvI 1 fun k hk => ?_, EvI 1 fun k hk => ?_, fun h => by omega⟩
      · obtain ⟨k, rfl⟩ : ∃ m, k = m + 1 := ⟨k - 1, by omega⟩
        rw [spec_l02Rolls.f, if_neg c0, inFR, Option.bind_some, if_neg e1, spec_l02Rolls.j0, if_pos rfl]
      · obtain ⟨k, rfl⟩ : ∃ m, k = m + 1 := ⟨k - 1, by omega⟩
        rw [impl_rollsCode.f, if_neg c0, withinFR, Option.bind_some, if_neg e1, impl_rollsCode.j0, if_pos rfl]
end Go.Proofs.Ytipdmnibjkdpcaa.Pure

namespace Go.Proofs.Ytipdmnibjkdpcaa.Pure
open Go.RowKit Go.Proofs.Ytipdmnibjkdpcaa.P Go.Proofs.YtipdmnibjkdpcaaW.PrintWords Go.Proofs.YtipdmnibjkdpcaaW.PrintLast
set_option linter.unusedVariables false
set_option linter.unusedSimpArgs false
theorem firstAt (l : List Int) (n : Int) : ∀ m, m ≤ l.length → (∃ q, q < m ∧ n ≤ l.getD q 0 ∧ ∀ j, j < q → l.getD j 0 < n) ∨ (∀ j, j < m → l.getD j 0 < n)
  | 0, _ => Or.inr fun j h => absurd h (Nat.not_lt_zero _)
  | m + 1, h => by
    rcases firstAt l n m (by omega) with ⟨q, q1, q2⟩ | g
    · exact Or.inl ⟨q, by omega, q2⟩
    · by_cases c : n ≤ l.getD m 0
      · exact Or.inl ⟨m, by omega, c, g⟩
      · refine Or.inr fun j hj => ?_
        by_cases e : j = m
        · subst e; omega
        · exact g j (by omega)
theorem fr_l1 (cuts : List Int) (long : Int) (out left : List Int) (i : Nat) (hi : i < cuts.length) (hl : left.length ≤ 1000) (r : List Int × Int × Int) (q : Nat) (hq : q ≤ left.length) (hlt : ∀ j, j < q → left.getD j 0 < cuts.getD i 0)
    (hr : Ev (fun k => spec_FirstRolls.l1 k cuts long out left (i : Int) (q : Int)) r) : ∀ d at_, q - at_ = d → at_ ≤ q → Ev (fun k => spec_FirstRolls.l1 k cuts long out left (i : Int) (at_ : Int)) r := by
  intro d
  induction d with
  | zero =>
    intro at_ hd ha
    obtain rfl : at_ = q := by omega
    exact hr
  | succ d ih =>
    intro at_ hd ha
    refine Ev.step (fun k => ?_) (ih (at_ + 1) (by omega) (by omega))
    rw [spec_FirstRolls.l1, if_pos (by omega), if_pos (by omega), if_pos (by omega), if_pos (by omega), rdN, rdN, if_pos (hlt at_ (by omega)), wN at_ (by omega)]
theorem fr_l0 (cuts : List Int) (long : Int) (hc : cuts.length ≤ 10) : ∀ d i (out left : List Int), cuts.length - i = d → i ≤ cuts.length → out.length = i → left.length ≤ i →
    ∃ r : List Int × Int × Int, r.1.length ≤ 10 ∧ Ev (fun k => spec_FirstRolls.l0 k cuts long out left (i : Int)) r ∧ Ev (fun k => impl_FirstRolls.l0 k long out left cuts (cuts.length : Int) (i : Int)) r := by
  intro d
  induction d with
  | zero =>
    intro i out left hd hi ho hl
    obtain rfl : i = cuts.length := by omega
    refine ⟨(out, (left.length : Int), 0), by simp only; omega, Ev.step (f := fun _ => some (out, (left.length : Int), 0)) (fun k => ?_) (Ev.now _), Ev.step (f := fun _ => some (out, (left.length : Int), 0)) (fun k => ?_) (Ev.now _)⟩
    · rw [spec_FirstRolls.l0, if_neg (by omega)]
    · rw [impl_FirstRolls.l0, if_neg (by omega), impl_size_int64.f, Option.bind_some]
  | succ d ih =>
    intro i out left hd hi ho hl
    rcases firstAt left (cuts.getD i 0) left.length (Nat.le_refl _) with ⟨q, q1, q2, q3⟩ | g
    · obtain ⟨r, r0, r1, r2⟩ := ih (i + 1) (out ++ [(q : Int)]) (left.set q (wrap64 (left.getD q 0 - cuts.getD i 0))) (by omega) (by omega) (by simp; omega) (by simp; omega)
      refine ⟨r, r0, Ev.step (f := fun k => spec_FirstRolls.l1 k cuts long out left (i : Int) ((0 : Nat) : Int)) (fun k => ?_) (fr_l1 cuts long out left i (by omega) (by omega) r q (by omega) q3 (Ev.step (fun k => ?_) r1) _ 0 rfl (Nat.zero_le _)), Ev.step (fun k => ?_) r2⟩
      · rw [spec_FirstRolls.l0, if_pos (by omega)]; rfl
      · rw [spec_FirstRolls.l1, if_pos (by omega), if_pos (by omega), if_pos (by omega), if_pos (by omega), rdN, rdN, if_neg (by omega), if_neg (by omega), if_pos (by omega), wN i (by omega), Int.toNat_natCast]
      · rw [impl_FirstRolls.l0, if_pos (by omega), if_pos (by omega), if_pos (by omega), rdN, impl_FirstRolls.ix, idxF_hit (fun x => decide (x ≥ cuts.getD i 0)) 0 left q q1 (decide_eq_true q2) (fun j hj => decide_eq_false (by have := q3 j hj; omega)), Option.bind_some, if_neg (by omega), if_pos (by omega), if_pos (by omega), if_pos (by omega), rdN, wN i (by omega), Int.toNat_natCast]
    · have e1 : (left ++ [long]).getD left.length 0 = long := by simp [List.getD_eq_getElem?_getD]
      obtain ⟨r, r0, r1, r2⟩ := ih (i + 1) (out ++ [(left.length : Int)]) ((left ++ [long]).set left.length (wrap64 ((left ++ [long]).getD left.length 0 - cuts.getD i 0))) (by omega) (by omega) (by simp; omega) (by simp; omega)
      refine ⟨r, r0, Ev.step (f := fun k => spec_FirstRolls.l1 k cuts long out left (i : Int) ((0 : Nat) : Int)) (fun k => ?_) (fr_l1 cuts long out left i (by omega) (by omega) r left.length (Nat.le_refl _) g (Ev.step (fun k => ?_) r1) _ 0 rfl (Nat.zero_le _)), Ev.step (fun k => ?_) r2⟩
      · rw [spec_FirstRolls.l0, if_pos (by omega)]; rfl
      · rw [spec_FirstRolls.l1, if_neg (by omega), if_pos rfl, if_pos (by omega), Option.bind_some, if_pos (by omega), if_pos (by simp; omega), if_pos (by omega), if_pos (by omega), if_pos (by omega), rdN, rdN, wN i (by omega), Int.toNat_natCast]
      · rw [impl_FirstRolls.l0, if_pos (by omega), if_pos (by omega), if_pos (by omega), rdN, impl_FirstRolls.ix, idxF_miss (fun x => decide (x ≥ cuts.getD i 0)) 0 left (fun j hj => decide_eq_false (by have := g j hj; omega)), Option.bind_some, if_pos (by omega), if_pos (by omega), Option.bind_some, if_pos (by omega), if_pos (by simp; omega), if_pos (by omega), rdN, wN i (by omega), Int.toNat_natCast]
theorem firstBoth (l : List Int) (a : Int) : ∃ r : List Int × Int × Int, r.1.length ≤ 10 ∧ Ev (fun k => spec_FirstRolls.f k l a) r ∧ Ev (fun k => impl_FirstRolls.f k l a) r := by
  obtain ⟨c, h1, h2, h3⟩ := bothRolls l a 0
  rw [show (decide ((0 : Int) ≤ 0) && decide ((0 : Int) ≤ 20000)) = true from rfl] at h1
  obtain ⟨K1, h1⟩ := EvG h1
  obtain ⟨K2, h2⟩ := EvG h2
  by_cases e : c = 0
  · obtain ⟨r, r0, r1, r2⟩ := fr_l0 l a (h3 e).1 _ 0 [] [] rfl (Nat.zero_le _) rfl (Nat.le_refl _)
    obtain ⟨K3, r1⟩ := EvG r1
    obtain ⟨K4, r2⟩ := EvG r2
    refine ⟨r, r0, EvI (K1 + K3) fun k hk => ?_, EvI (K2 + K4) fun k hk => ?_⟩
    · rw [spec_FirstRolls.f, h1 k (by omega), Option.bind_some, if_pos e]; exact r1 k (by omega)
    · rw [impl_FirstRolls.f, h2 k (by omega), Option.bind_some, if_pos e]; exact r2 k (by omega)
  · refine ⟨([], 0, c), Nat.zero_le _, EvI K1 fun k hk => ?_, EvI K2 fun k hk => ?_⟩
    · rw [spec_FirstRolls.f, h1 k hk, Option.bind_some, if_neg e]
    · rw [impl_FirstRolls.f, h2 k hk, Option.bind_some, if_neg e]
theorem FnExactFirstRolls : laws_FnExactFirstRolls.Pure := by
  intro n a _ _ _ _
  by_cases h0 : (n.length : Int) > 1048576
  · exact ⟨0, by rw [laws_FnExactFirstRolls.f, if_pos h0]⟩
  obtain ⟨K2, e2⟩ := EvG (toI n (by omega))
  obtain ⟨r, hr, h3, h4⟩ := firstBoth n a
  obtain ⟨K3, h3⟩ := EvG h3
  obtain ⟨K4, h4⟩ := EvG h4
  obtain ⟨K6, h6⟩ := EvG (eqI n (by omega))
  obtain ⟨K7, h7⟩ := EvG (eqI r.1 (by omega))
  obtain ⟨K9, h9⟩ := EvG (markI n 1 (by omega) (by omega))
  obtain ⟨K10, h10⟩ := EvG (markI r.1 1 (by omega) (by omega))
  obtain ⟨K11, h11⟩ := EvG (heldI r.1.length 1 (by omega) (by omega))
  obtain ⟨q, s, c⟩ := r
  simp only at h3 h4 h7 h10 h11 hr
  refine ⟨K2 + K3 + K4 + K6 + K7 + K9 + K10 + K11 + 3, ?_⟩
  rw [laws_FnExactFirstRolls.f, if_neg h0,
    e2 _ (by omega), Option.bind_some, h3 _ (by omega), Option.bind_some, Option.bind_some, h4 _ (by omega), Option.bind_some, h7 _ (by omega), Option.bind_some, if_pos rfl, if_pos rfl, bne_self_eq_false,
    laws_FnExactFirstRolls.j0, if_neg (by simp), e2 _ (by omega), Option.bind_some, h6 _ (by omega), Option.bind_some, if_pos rfl, show (1 : Int) = ((1 : Nat) : Int) from rfl,
    h9 _ (by omega), Option.bind_some, if_neg (by simp only; omega), h7 _ (by omega), Option.bind_some, if_pos rfl, if_pos rfl, bne_self_eq_false,
    laws_FnExactFirstRolls.j1, if_neg (by simp), show (1 : Int) = ((1 : Nat) : Int) from rfl, h10 _ (by omega), Option.bind_some, h11 _ (by omega), Option.bind_some, if_neg (by omega), if_pos rfl,
    e2 _ (by omega), Option.bind_some, h4 _ (by omega), Option.bind_some, h7 _ (by omega), Option.bind_some, if_pos rfl, if_pos rfl, bne_self_eq_false,
    laws_FnExactFirstRolls.j2, if_neg (by simp), show (1 : Int) = ((1 : Nat) : Int) from rfl, h11 _ (by omega), Option.bind_some, if_neg (by omega), if_pos rfl]
end Go.Proofs.Ytipdmnibjkdpcaa.Pure
