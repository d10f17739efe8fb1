/- The Go functions that the law FnExactFirstWrongGreedy comes to, as plain Lean functions, the proofs that calls of them return what those tell, and the plain lemmas on them; no condition but those that each theorem states. -/
import Derived.Test.YtaonlhjblocfkaaMFirstWrongGreedy1
import Derived.OpenShut
namespace Go.Proofs.Ytaonlhjblocfkaa.P
open Go.RowKit Go.Proofs.YtaonlhjblocfkaaW.PrintWords Go.Proofs.YtaonlhjblocfkaaW.PrintLast Go.Proofs.YtaonlhjblocfkaaW.PrintMore
attribute [local go_sem] max2_int min2_int max_two min_two max_three min_three max_four min_four   -- for this text's walks alone
set_option linter.unusedVariables false
set_option linter.unusedSimpArgs false

/-! ### impl_FirstWrongGreedy: function 30 -/
def impl_FirstWrongGreedy.l0 : Nat → List Int → List Int → Int → Int → Option (Int × Int)
  | 0, _, _, _, _ => none
  | k + 1, x0, x12, x13, x14 => if x14 < x13 then (if 0 ≤ x14 then (if x14 < (x12.length : Int) then (if (rd x12 x14) < 0 then (impl_FirstWrongGreedy.l0 k x0 x12 x13 (wrap64 (x14 + 1))) else ((impl_greedy.f x0 x14).bind fun bt388 => (if bt388.2 = true then ((impl_sum.f k bt388.1).bind fun t392 => (if t392 > (rd x12 x14) then (some (x14, 0)) else (impl_FirstWrongGreedy.l0 k x0 x12 x13 (wrap64 (x14 + 1))))) else (some (x14, 0))))) else (none)) else (none)) else (some (0, 6))
def impl_FirstWrongGreedy.f (k : Nat) (l0 : List Int) : Option (Int × Int) := (impl_ValidValues.f k l0).bind fun t383 => (if t383 = true then ((impl_leastStamps.f k l0 1000).bind fun t384 => (impl_FirstWrongGreedy.l0 k l0 t384 (t384.length : Int) 0)) else (some (0, 1)))
theorem impl_FirstWrongGreedy.mono_l : ∀ k, (∀ y0 y1 y2 y3, LeO (impl_FirstWrongGreedy.l0 k y0 y1 y2 y3) (impl_FirstWrongGreedy.l0 (k + 1) y0 y1 y2 y3))
  | 0 => fun _ _ _ _ r h => by simp [impl_FirstWrongGreedy.l0] at h
  | k + 1 => by
    have ih0 := impl_FirstWrongGreedy.mono_l k
    · intro y0 y1 y2 y3
      unfold impl_FirstWrongGreedy.l0
      repeat' first
      | (with_reducible exact ih0 _ _ _ _)
      | (with_reducible exact impl_ValidValues.mono _ _)
      | (with_reducible exact impl_leastStamps.mono _ _ _)
      | (with_reducible exact impl_sum.mono _ _)
      | (with_reducible exact LeO.refl _)
      | (with_reducible exact LeO.none _)
      | (with_reducible refine LeO.ite ?_ ?_)
      | (with_reducible refine LeO.bind ?_ (fun _ => ?_))
      | exact ih0 _ _ _ _
      | exact impl_ValidValues.mono _ _
      | exact impl_leastStamps.mono _ _ _
      | exact impl_sum.mono _ _
      | exact LeO.none _
      | refine LeO.ite ?_ ?_
      | refine LeO.bind ?_ (fun _ => ?_)
theorem impl_FirstWrongGreedy.mono : ∀ a0 k, LeO (impl_FirstWrongGreedy.f k a0) (impl_FirstWrongGreedy.f (k + 1) a0) := by
  intro a0 k
  have ih0 := impl_FirstWrongGreedy.mono_l k
  unfold impl_FirstWrongGreedy.f
  repeat' first
      | (with_reducible exact ih0 _ _ _ _)
      | (with_reducible exact impl_ValidValues.mono _ _)
      | (with_reducible exact impl_leastStamps.mono _ _ _)
      | (with_reducible exact impl_sum.mono _ _)
      | (with_reducible exact LeO.refl _)
      | (with_reducible exact LeO.none _)
      | (with_reducible refine LeO.ite ?_ ?_)
      | (with_reducible refine LeO.bind ?_ (fun _ => ?_))
      | exact ih0 _ _ _ _
      | exact impl_ValidValues.mono _ _
      | exact impl_leastStamps.mono _ _ _
      | exact impl_sum.mono _ _
      | exact LeO.none _
      | refine LeO.ite ?_ ?_
      | refine LeO.bind ?_ (fun _ => ?_)
set_option maxHeartbeats 8000000 in
set_option maxRecDepth 100000 in
theorem impl_FirstWrongGreedy.calls (k : Nat) (A0 : Option Addr) (c0 : Nat) (l0 : List Int) (r1 : Int) (r2 : Int) (w : World) (hr0 : Kd.C (Kd.int .i64) w A0 l0.length l0) (hc0 : l0.length ≤ c0) (h : impl_FirstWrongGreedy.f k l0 = some (r1, r2)) :
    Calls Try.prog 30 #[.slice A0 l0.length c0] w fun e w' => e = .returned (.tuple #[.int .i64 r1, .int .i64 r2]) ∧ Below w.heap.size w w' := by
  have HR0 := Aside0.mk hr0
  have HC0 := Aside0.mk hc0
  clear hr0 hc0
  have HB := Aside0.mk (Below.refl w.heap.size w)
  have H : ((impl_ValidValues.f k l0).bind fun t383 => (if t383 = true then ((impl_leastStamps.f k l0 1000).bind fun t384 => (impl_FirstWrongGreedy.l0 k l0 t384 (t384.length : Int) 0)) else (some (0, 1)))) = some (r1, r2) := h
  clear h
  replace H := Option.bind_eq_some_iff.mp H
  obtain ⟨t383, A20, H⟩ := H
  replace H : (if t383 = true then ((impl_leastStamps.f k l0 1000).bind fun t384 => (impl_FirstWrongGreedy.l0 k l0 t384 (t384.length : Int) 0)) else (some (0, 1))) = some (r1, r2) := H
  have A2 := Aside0.mk A20
  clear A20
  by_cases c3 : t383 = true
  · subst c3
    have H1 : ((impl_leastStamps.f k l0 1000).bind fun t384 => (impl_FirstWrongGreedy.l0 k l0 t384 (t384.length : Int) 0)) = some (r1, r2) := by rw [if_pos rfl] at H; exact H
    clear H
    have H := H1
    clear H1
    replace H := Option.bind_eq_some_iff.mp H
    obtain ⟨t384, A40, H⟩ := H
    replace H : (impl_FirstWrongGreedy.l0 k l0 t384 (t384.length : Int) 0) = some (r1, r2) := H
    have A4 := Aside0.mk A40
    clear A40
    have H' := Aside0.mk H
    clear H
    go_enter Try.func30, Try.ntmps30
    go_wp2_with (first | ((with_reducible refine gate_callee (f := 19) rfl ?_); refine goesL_ (some 9) rfl rfl Try.func19 (by kernel_rfl) rfl #[.slice A0 l0.length c0] rfl (by (try simp only [List.map_toArray, List.map_cons, List.map_nil]); first | done | rfl | (simp only [List.length_drop, List.length_take]; rfl)) ?_; (with_reducible refine (impl_ValidValues.calls k _ _ l0 true _ ?side1 ?side2 A2.out).mono ?_); (case side1 => repeat (first | exact HR0.out | (with_reducible refine Kd.C_alloc ?_ _) | (with_reducible refine Kd.C_drewN ?_ _) | (with_reducible refine Kd.C_drew ?_))); (case side2 => exact HC0.out); rintro e w5 ⟨rfl, hb⟩; refine ⟨_, rfl, ?_⟩; have n0_ := Aside0.mk (below_step (by repeat (first | (with_reducible first | exact HB.out | apply below_alloc | apply pw_below_drewN | apply below_drew1) | exact HB.out)) hb); clear HB; have HB := n0_; clear n0_; (try clear hb); (try clear hb2); (try clear hk); (try clear hi)) | ((with_reducible refine gate_callee (f := 61) rfl ?_); refine goesL_ (some 12) rfl rfl Try.func61 (by kernel_rfl) rfl #[.slice A0 l0.length c0, .int .i64 1000] rfl (by (try simp only [List.map_toArray, List.map_cons, List.map_nil]); first | done | rfl | (simp only [List.length_drop, List.length_take]; rfl)) ?_; (with_reducible refine (impl_leastStamps.calls k _ _ l0 1000 t384 _ ?side1 ?side2 A4.out).mono ?_); (case side1 => repeat (first | exact (Kd.C_below HR0.out HB.out) | (with_reducible refine Kd.C_alloc ?_ _) | (with_reducible refine Kd.C_drewN ?_ _) | (with_reducible refine Kd.C_drew ?_))); (case side2 => exact HC0.out); rintro e w6 ⟨v385, rfl, ho0, hb⟩; refine ⟨_, rfl, ?_⟩; have n0_ := Aside0.mk (Kd.R_lower ho0 (below_size (by repeat (first | (with_reducible first | exact HB.out | apply below_alloc | apply pw_below_drewN | apply below_drew1) | exact HB.out)))); have n1_ := Aside0.mk (below_step (by repeat (first | (with_reducible first | exact HB.out | apply below_alloc | apply pw_below_drewN | apply below_drew1) | exact HB.out)) hb); clear HB; have HO386 := n0_; have HB := n1_; clear n0_ n1_; (try clear hb); (try clear hb2); (try clear hk); (try clear hi); (try clear ho0); obtain ⟨Ao7, co7, eo7⟩ := Kd.R_slice HO386.out; subst eo7))
    go_loopg [14] k (fun kq v14 w' => ∃ (x14_1 : Int), v14 = .int .i64 x14_1 ∧ Aside0 (impl_FirstWrongGreedy.l0 kq l0 t384 (t384.length : Int) x14_1 = some (r1, r2)) ∧ Aside0 (kq ≤ k) ∧ Aside0 (Kd.R (Kd.int .i64) 2 w' w.heap.size (fun _ => True) (.slice Ao7 t384.length co7) t384) ∧ Aside0 (Below w.heap.size w w'))
    case atStart => exact ⟨(0), (by first | rfl | (simp; done) | (simp [*]; done)), H', ⟨Nat.le_refl _⟩, ⟨by (with_reducible repeat (first | apply Kd.R_alloc | apply Kd.R_drewN | apply Kd.R_drew)); exact HO386.out⟩, ⟨by repeat (first | (with_reducible first | exact HB.out | apply below_alloc | apply pw_below_drewN | apply below_drew1) | exact HB.out)⟩⟩
    case round =>
      clear H'
      try clear c1
      try clear p2
      try clear c3
      try clear c6
      obtain ⟨x14_1, rfl, HA, HK1, HO_12, HB⟩ := hrel
      cases gk with
      | zero => exact absurd HA.out (by simp [impl_FirstWrongGreedy.l0])
      | succ k1 =>
        have H := HA.out
        clear HA
        simp only [impl_FirstWrongGreedy.l0] at H
        by_cases c8 : x14_1 < (t384.length : Int)
        · rw [if_pos c8] at H
          have c8b0 : decide (x14_1 < (t384.length : Int)) = true := decide_eq_true c8
          clear c8
          by_cases c9 : 0 ≤ x14_1
          · rw [if_pos c9] at H
            have c9b0 : decide (0 ≤ x14_1) = true := decide_eq_true c9
            clear c9
            by_cases c10 : x14_1 < (t384.length : Int)
            · rw [if_pos c10] at H
              have c10b0 : decide (x14_1 < (t384.length : Int)) = true := decide_eq_true c10
              clear c10
              by_cases c11 : (rd t384 x14_1) < 0
              · rw [if_pos c11] at H
                have c11b0 : decide ((rd t384 x14_1) < 0) = true := decide_eq_true c11
                clear c11
                have H' := Aside0.mk H
                clear H
                have p387 : 0 ≤ (x14_1 : Int) := of_decide_eq_true (by first | (with_reducible assumption) | assumption)
                have q387 : x14_1 < (t384.length : Int) := of_decide_eq_true (by first | (with_reducible assumption) | assumption)
                obtain ⟨ad387, e387, hx387_0⟩ := Kd.at_int (Kd.R_reads' HO_12.out).2.2 x14_1 p387 q387
                cases e387
                replace p387 := eq_true p387
                replace q387 := eq_true q387
                go_wp2
                go_roundg k1
                case measure => have := HK1.out; omega
                case rel => exact ⟨(wrap64 (x14_1 + 1)), (by first | rfl | (simp; done) | (simp [*]; done)), H', ⟨by have := HK1.out; omega⟩, ⟨by (with_reducible repeat (first | apply Kd.R_alloc | apply Kd.R_drewN | apply Kd.R_drew)); exact HO_12.out⟩, ⟨by repeat (first | (with_reducible first | exact HB.out | apply below_alloc | apply pw_below_drewN | apply below_drew1) | exact HB.out)⟩⟩
              · rw [if_neg c11] at H
                have c11b0 : decide ((rd t384 x14_1) < 0) = false := decide_eq_false c11
                clear c11
                replace H := Option.bind_eq_some_iff.mp H
                obtain ⟨⟨t388, t389⟩, A120, H⟩ := H
                replace H : (if t389 = true then ((impl_sum.f k1 t388).bind fun t392 => (if t392 > (rd t384 x14_1) then (some (x14_1, 0)) else (impl_FirstWrongGreedy.l0 k1 l0 t384 (t384.length : Int) (wrap64 (x14_1 + 1))))) else (some (x14_1, 0))) = some (r1, r2) := H
                have A12 := Aside0.mk A120
                clear A120
                by_cases c13 : t389 = true
                · subst c13
                  have H1 : ((impl_sum.f k1 t388).bind fun t392 => (if t392 > (rd t384 x14_1) then (some (x14_1, 0)) else (impl_FirstWrongGreedy.l0 k1 l0 t384 (t384.length : Int) (wrap64 (x14_1 + 1))))) = some (r1, r2) := by rw [if_pos rfl] at H; exact H
                  clear H
                  have H := H1
                  clear H1
                  replace H := Option.bind_eq_some_iff.mp H
                  obtain ⟨t392, A140, H⟩ := H
                  replace H : (if t392 > (rd t384 x14_1) then (some (x14_1, 0)) else (impl_FirstWrongGreedy.l0 k1 l0 t384 (t384.length : Int) (wrap64 (x14_1 + 1)))) = some (r1, r2) := H
                  have A14 := Aside0.mk A140
                  clear A140
                  by_cases c15 : t392 > (rd t384 x14_1)
                  · rw [if_pos c15] at H
                    have c15b0 : decide ((rd t384 x14_1) < t392) = true := decide_eq_true c15
                    clear c15
                    simp only [Option.some.injEq, Prod.mk.injEq] at H
                    obtain ⟨rfl, rfl⟩ := H
                    have p387 : 0 ≤ (x14_1 : Int) := of_decide_eq_true (by first | (with_reducible assumption) | assumption)
                    have q387 : x14_1 < (t384.length : Int) := of_decide_eq_true (by first | (with_reducible assumption) | assumption)
                    obtain ⟨ad387, e387, hx387_0⟩ := Kd.at_int (Kd.R_reads' HO_12.out).2.2 x14_1 p387 q387
                    cases e387
                    replace p387 := eq_true p387
                    replace q387 := eq_true q387
                    go_wp2_with (first | ((with_reducible refine gate_callee (f := 59) rfl ?_); refine goesL_ (some 24) rfl rfl Try.func59 (by kernel_rfl) rfl #[.slice A0 l0.length c0, .int .i64 x14_1] rfl (by (try simp only [List.map_toArray, List.map_cons, List.map_nil]); first | done | rfl | (simp only [List.length_drop, List.length_take]; rfl)) ?_; (with_reducible refine (impl_greedy.calls _ _ l0 x14_1 t388 true _ ?side1 ?side2 A12.out).mono ?_); (case side1 => repeat (first | exact (Kd.C_below HR0.out HB.out) | (with_reducible refine Kd.C_alloc ?_ _) | (with_reducible refine Kd.C_drewN ?_ _) | (with_reducible refine Kd.C_drew ?_))); (case side2 => exact HC0.out); rintro e w16 ⟨v390, rfl, ho0, hb⟩; refine ⟨_, rfl, ?_⟩; have n0_ := Aside0.mk (Kd.R_elder' (by (with_reducible repeat (first | apply Kd.R_alloc | apply Kd.R_drewN | apply Kd.R_drew)); exact HO_12.out) (Kd.R_base ho0) hb); have n1_ := Aside0.mk (Kd.R_lower (Kd.R_new' ho0 (Kd.R_lt (by (with_reducible repeat (first | apply Kd.R_alloc | apply Kd.R_drewN | apply Kd.R_drew)); exact HO_12.out))) (below_size (by repeat (first | (with_reducible first | exact HB.out | apply below_alloc | apply pw_below_drewN | apply below_drew1) | exact HB.out)))); have n2_ := Aside0.mk (below_step (by repeat (first | (with_reducible first | exact HB.out | apply below_alloc | apply pw_below_drewN | apply below_drew1) | exact HB.out)) hb); clear HO_12; clear HB; have HO_12 := n0_; have HO391 := n1_; have HB := n2_; clear n0_ n1_ n2_; (try clear hb); (try clear hb2); (try clear hk); (try clear hi); (try clear ho0); obtain ⟨Ao17, co17, eo17⟩ := Kd.R_slice HO391.out; subst eo17) | (go_at_call 60; (with_reducible refine (impl_sum.calls k1 _ _ t388 t392 _ ?side1 ?side2 A14.out).mono ?_); (case side1 => repeat (first | exact (Kd.R_reads' HO391.out).2.2 | (with_reducible refine Kd.C_alloc ?_ _) | (with_reducible refine Kd.C_drewN ?_ _) | (with_reducible refine Kd.C_drew ?_))); (case side2 => exact (Kd.R_reads' HO391.out).2.1); rintro e w' ⟨rfl, ⟨nd, rfl⟩⟩))
                    go_ret2
                    exact ⟨by first | rfl | (simp [errW_none, errW_some] <;> rfl) | (simp [*, errW_none, errW_some] <;> rfl), by repeat (first | (with_reducible first | exact HB.out | apply below_alloc | apply pw_below_drewN | apply below_drew1) | exact HB.out)⟩
                  · rw [if_neg c15] at H
                    have c15b0 : decide ((rd t384 x14_1) < t392) = false := decide_eq_false c15
                    clear c15
                    have H' := Aside0.mk H
                    clear H
                    have p387 : 0 ≤ (x14_1 : Int) := of_decide_eq_true (by first | (with_reducible assumption) | assumption)
                    have q387 : x14_1 < (t384.length : Int) := of_decide_eq_true (by first | (with_reducible assumption) | assumption)
                    obtain ⟨ad387, e387, hx387_0⟩ := Kd.at_int (Kd.R_reads' HO_12.out).2.2 x14_1 p387 q387
                    cases e387
                    replace p387 := eq_true p387
                    replace q387 := eq_true q387
                    go_wp2_with (first | ((with_reducible refine gate_callee (f := 59) rfl ?_); refine goesL_ (some 24) rfl rfl Try.func59 (by kernel_rfl) rfl #[.slice A0 l0.length c0, .int .i64 x14_1] rfl (by (try simp only [List.map_toArray, List.map_cons, List.map_nil]); first | done | rfl | (simp only [List.length_drop, List.length_take]; rfl)) ?_; (with_reducible refine (impl_greedy.calls _ _ l0 x14_1 t388 true _ ?side1 ?side2 A12.out).mono ?_); (case side1 => repeat (first | exact (Kd.C_below HR0.out HB.out) | (with_reducible refine Kd.C_alloc ?_ _) | (with_reducible refine Kd.C_drewN ?_ _) | (with_reducible refine Kd.C_drew ?_))); (case side2 => exact HC0.out); rintro e w18 ⟨v390, rfl, ho0, hb⟩; refine ⟨_, rfl, ?_⟩; have n0_ := Aside0.mk (Kd.R_elder' (by (with_reducible repeat (first | apply Kd.R_alloc | apply Kd.R_drewN | apply Kd.R_drew)); exact HO_12.out) (Kd.R_base ho0) hb); have n1_ := Aside0.mk (Kd.R_lower (Kd.R_new' ho0 (Kd.R_lt (by (with_reducible repeat (first | apply Kd.R_alloc | apply Kd.R_drewN | apply Kd.R_drew)); exact HO_12.out))) (below_size (by repeat (first | (with_reducible first | exact HB.out | apply below_alloc | apply pw_below_drewN | apply below_drew1) | exact HB.out)))); have n2_ := Aside0.mk (below_step (by repeat (first | (with_reducible first | exact HB.out | apply below_alloc | apply pw_below_drewN | apply below_drew1) | exact HB.out)) hb); clear HO_12; clear HB; have HO_12 := n0_; have HO391 := n1_; have HB := n2_; clear n0_ n1_ n2_; (try clear hb); (try clear hb2); (try clear hk); (try clear hi); (try clear ho0); obtain ⟨Ao19, co19, eo19⟩ := Kd.R_slice HO391.out; subst eo19) | (go_at_call 60; (with_reducible refine (impl_sum.calls k1 _ _ t388 t392 _ ?side1 ?side2 A14.out).mono ?_); (case side1 => repeat (first | exact (Kd.R_reads' HO391.out).2.2 | (with_reducible refine Kd.C_alloc ?_ _) | (with_reducible refine Kd.C_drewN ?_ _) | (with_reducible refine Kd.C_drew ?_))); (case side2 => exact (Kd.R_reads' HO391.out).2.1); rintro e w' ⟨rfl, ⟨nd, rfl⟩⟩))
                    go_roundg k1
                    case measure => have := HK1.out; omega
                    case rel => exact ⟨(wrap64 (x14_1 + 1)), (by first | rfl | (simp; done) | (simp [*]; done)), H', ⟨by have := HK1.out; omega⟩, ⟨by (with_reducible repeat (first | apply Kd.R_alloc | apply Kd.R_drewN | apply Kd.R_drew)); exact Kd.R_mono HO_12.out (fun _ hk => trivial)⟩, ⟨by repeat (first | (with_reducible first | exact HB.out | apply below_alloc | apply pw_below_drewN | apply below_drew1) | exact HB.out)⟩⟩
                · replace c13 := Bool.eq_false_iff.mpr c13
                  subst c13
                  have H1 : (some (x14_1, 0)) = some (r1, r2) := by rw [if_neg (show ¬ (false = true) by decide)] at H; exact H
                  clear H
                  have H := H1
                  clear H1
                  simp only [Option.some.injEq, Prod.mk.injEq] at H
                  obtain ⟨rfl, rfl⟩ := H
                  have p387 : 0 ≤ (x14_1 : Int) := of_decide_eq_true (by first | (with_reducible assumption) | assumption)
                  have q387 : x14_1 < (t384.length : Int) := of_decide_eq_true (by first | (with_reducible assumption) | assumption)
                  obtain ⟨ad387, e387, hx387_0⟩ := Kd.at_int (Kd.R_reads' HO_12.out).2.2 x14_1 p387 q387
                  cases e387
                  replace p387 := eq_true p387
                  replace q387 := eq_true q387
                  go_wp2_with (first | ((with_reducible refine gate_callee (f := 59) rfl ?_); refine goesL_ (some 24) rfl rfl Try.func59 (by kernel_rfl) rfl #[.slice A0 l0.length c0, .int .i64 x14_1] rfl (by (try simp only [List.map_toArray, List.map_cons, List.map_nil]); first | done | rfl | (simp only [List.length_drop, List.length_take]; rfl)) ?_; (with_reducible refine (impl_greedy.calls _ _ l0 x14_1 t388 false _ ?side1 ?side2 A12.out).mono ?_); (case side1 => repeat (first | exact (Kd.C_below HR0.out HB.out) | (with_reducible refine Kd.C_alloc ?_ _) | (with_reducible refine Kd.C_drewN ?_ _) | (with_reducible refine Kd.C_drew ?_))); (case side2 => exact HC0.out); rintro e w20 ⟨v390, rfl, ho0, hb⟩; refine ⟨_, rfl, ?_⟩; have n0_ := Aside0.mk (Kd.R_elder' (by (with_reducible repeat (first | apply Kd.R_alloc | apply Kd.R_drewN | apply Kd.R_drew)); exact HO_12.out) (Kd.R_base ho0) hb); have n1_ := Aside0.mk (Kd.R_lower (Kd.R_new' ho0 (Kd.R_lt (by (with_reducible repeat (first | apply Kd.R_alloc | apply Kd.R_drewN | apply Kd.R_drew)); exact HO_12.out))) (below_size (by repeat (first | (with_reducible first | exact HB.out | apply below_alloc | apply pw_below_drewN | apply below_drew1) | exact HB.out)))); have n2_ := Aside0.mk (below_step (by repeat (first | (with_reducible first | exact HB.out | apply below_alloc | apply pw_below_drewN | apply below_drew1) | exact HB.out)) hb); clear HO_12; clear HB; have HO_12 := n0_; have HO391 := n1_; have HB := n2_; clear n0_ n1_ n2_; (try clear hb); (try clear hb2); (try clear hk); (try clear hi); (try clear ho0)))
                  go_ret2
                  exact ⟨by first | rfl | (simp [errW_none, errW_some] <;> rfl) | (simp [*, errW_none, errW_some] <;> rfl), by repeat (first | (with_reducible first | exact HB.out | apply below_alloc | apply pw_below_drewN | apply below_drew1) | exact HB.out)⟩
            · rw [if_neg c10] at H
              exact absurd H (by simp)
          · rw [if_neg c9] at H
            exact absurd H (by simp)
        · rw [if_neg c8] at H
          have c8b0 : decide (x14_1 < (t384.length : Int)) = false := decide_eq_false c8
          clear c8
          simp only [Option.some.injEq, Prod.mk.injEq] at H
          obtain ⟨rfl, rfl⟩ := H
          go_wp2
          go_ret2
          exact ⟨by first | rfl | (simp [errW_none, errW_some] <;> rfl) | (simp [*, errW_none, errW_some] <;> rfl), by repeat (first | (with_reducible first | exact HB.out | apply below_alloc | apply pw_below_drewN | apply below_drew1) | exact HB.out)⟩
  · replace c3 := Bool.eq_false_iff.mpr c3
    subst c3
    have H1 : (some (0, 1)) = some (r1, r2) := by rw [if_neg (show ¬ (false = true) by decide)] at H; exact H
    clear H
    have H := H1
    clear H1
    simp only [Option.some.injEq, Prod.mk.injEq] at H
    obtain ⟨rfl, rfl⟩ := H
    go_enter Try.func30, Try.ntmps30
    go_wp2_with (first | ((with_reducible refine gate_callee (f := 19) rfl ?_); refine goesL_ (some 9) rfl rfl Try.func19 (by kernel_rfl) rfl #[.slice A0 l0.length c0] rfl (by (try simp only [List.map_toArray, List.map_cons, List.map_nil]); first | done | rfl | (simp only [List.length_drop, List.length_take]; rfl)) ?_; (with_reducible refine (impl_ValidValues.calls k _ _ l0 false _ ?side1 ?side2 A2.out).mono ?_); (case side1 => repeat (first | exact HR0.out | (with_reducible refine Kd.C_alloc ?_ _) | (with_reducible refine Kd.C_drewN ?_ _) | (with_reducible refine Kd.C_drew ?_))); (case side2 => exact HC0.out); rintro e w21 ⟨rfl, hb⟩; refine ⟨_, rfl, ?_⟩; have n0_ := Aside0.mk (below_step (by repeat (first | (with_reducible first | exact HB.out | apply below_alloc | apply pw_below_drewN | apply below_drew1) | exact HB.out)) hb); clear HB; have HB := n0_; clear n0_; (try clear hb); (try clear hb2); (try clear hk); (try clear hi)))
    go_ret2
    exact ⟨by first | rfl | (simp [errW_none, errW_some] <;> rfl) | (simp [*, errW_none, errW_some] <;> rfl), by repeat (first | (with_reducible first | exact HB.out | apply below_alloc | apply pw_below_drewN | apply below_drew1) | exact HB.out)⟩

end Go.Proofs.Ytaonlhjblocfkaa.P

namespace Go.Proofs.Ytaonlhjblocfkaa.P
open Go.RowKit Go.Proofs.YtaonlhjblocfkaaW.PrintWords Go.Proofs.YtaonlhjblocfkaaW.PrintLast Go.Proofs.YtaonlhjblocfkaaW.PrintMore
attribute [local go_sem] max2_int min2_int max_two min_two max_three min_three max_four min_four   -- for this text's walks alone
set_option linter.unusedVariables false
set_option linter.unusedSimpArgs false

/-! ### laws_FnExactFirstWrongGreedy: function 9 -/
def laws_FnExactFirstWrongGreedy.j0 : Nat → List Int → List Int → Bool → Option (Bool)
  | 0, _, _, _ => none
  | k + 1, x0, x5, x31 => if x31 = true then (some false) else ((laws_toInt64S.f k x0).bind fun t403 => ((laws_eqInt64S.f k x5 t403).bind fun t406 => (if t406 = true then (some true) else (some false))))
def laws_FnExactFirstWrongGreedy.f (k : Nat) (l0 : List Int) : Option (Bool) := if (l0.length : Int) > 1048576 then (some true) else ((laws_toInt64S.f k l0).bind fun t393 => ((spec_FirstWrongGreedy.f k t393).bind fun bt396 => ((laws_toInt64S.f k l0).bind fun t398 => ((impl_FirstWrongGreedy.f k t398).bind fun bt401 => (if bt401.1 = bt396.1 then (laws_FnExactFirstWrongGreedy.j0 k l0 t398 (bt401.2 != bt396.2)) else (laws_FnExactFirstWrongGreedy.j0 k l0 t398 true))))))
theorem laws_FnExactFirstWrongGreedy.mono_l : ∀ k, (∀ y0 y1 y2, LeO (laws_FnExactFirstWrongGreedy.j0 k y0 y1 y2) (laws_FnExactFirstWrongGreedy.j0 (k + 1) y0 y1 y2))
  | 0 => fun _ _ _ r h => by simp [laws_FnExactFirstWrongGreedy.j0] at h
  | k + 1 => by
    have ih0 := laws_FnExactFirstWrongGreedy.mono_l k
    · intro y0 y1 y2
      unfold laws_FnExactFirstWrongGreedy.j0
      repeat' first
      | (with_reducible exact ih0 _ _ _)
      | (with_reducible exact impl_FirstWrongGreedy.mono _ _)
      | (with_reducible exact laws_eqInt64S.mono _ _ _)
      | (with_reducible exact laws_toInt64S.mono _ _)
      | (with_reducible exact spec_FirstWrongGreedy.mono _ _)
      | (with_reducible exact LeO.refl _)
      | (with_reducible exact LeO.none _)
      | (with_reducible refine LeO.ite ?_ ?_)
      | (with_reducible refine LeO.bind ?_ (fun _ => ?_))
      | exact ih0 _ _ _
      | exact impl_FirstWrongGreedy.mono _ _
      | exact laws_eqInt64S.mono _ _ _
      | exact laws_toInt64S.mono _ _
      | exact spec_FirstWrongGreedy.mono _ _
      | exact LeO.none _
      | refine LeO.ite ?_ ?_
      | refine LeO.bind ?_ (fun _ => ?_)
theorem laws_FnExactFirstWrongGreedy.mono : ∀ a0 k, LeO (laws_FnExactFirstWrongGreedy.f k a0) (laws_FnExactFirstWrongGreedy.f (k + 1) a0) := by
  intro a0 k
  have ih0 := laws_FnExactFirstWrongGreedy.mono_l k
  unfold laws_FnExactFirstWrongGreedy.f
  repeat' first
      | (with_reducible exact ih0 _ _ _)
      | (with_reducible exact impl_FirstWrongGreedy.mono _ _)
      | (with_reducible exact laws_eqInt64S.mono _ _ _)
      | (with_reducible exact laws_toInt64S.mono _ _)
      | (with_reducible exact spec_FirstWrongGreedy.mono _ _)
      | (with_reducible exact LeO.refl _)
      | (with_reducible exact LeO.none _)
      | (with_reducible refine LeO.ite ?_ ?_)
      | (with_reducible refine LeO.bind ?_ (fun _ => ?_))
      | exact ih0 _ _ _
      | exact impl_FirstWrongGreedy.mono _ _
      | exact laws_eqInt64S.mono _ _ _
      | exact laws_toInt64S.mono _ _
      | exact spec_FirstWrongGreedy.mono _ _
      | exact LeO.none _
      | refine LeO.ite ?_ ?_
      | refine LeO.bind ?_ (fun _ => ?_)
set_option maxHeartbeats 8000000 in
set_option maxRecDepth 100000 in
theorem laws_FnExactFirstWrongGreedy.calls (k : Nat) (A0 : Option Addr) (c0 : Nat) (l0 : List Int) (r : Bool) (w : World) (hr0 : Kd.C (Kd.int .i64) w A0 l0.length l0) (hc0 : l0.length ≤ c0) (h : laws_FnExactFirstWrongGreedy.f k l0 = some r) (hlaw_ : r = true := by rfl) :
    Calls Try.prog 9 #[.slice A0 l0.length c0] w fun e w' => e = .returned (.bool r) ∧ Below w.heap.size w w' := by
  have HLAW := Aside0.mk hlaw_
  clear hlaw_
  have HR0 := Aside0.mk hr0
  have HC0 := Aside0.mk hc0
  clear hr0 hc0
  have HB := Aside0.mk (Below.refl w.heap.size w)
  have H : (if (l0.length : Int) > 1048576 then (some true) else ((laws_toInt64S.f k l0).bind fun t393 => ((spec_FirstWrongGreedy.f k t393).bind fun bt396 => ((laws_toInt64S.f k l0).bind fun t398 => ((impl_FirstWrongGreedy.f k t398).bind fun bt401 => (if bt401.1 = bt396.1 then (laws_FnExactFirstWrongGreedy.j0 k l0 t398 (bt401.2 != bt396.2)) else (laws_FnExactFirstWrongGreedy.j0 k l0 t398 true))))))) = some r := h
  clear h
  by_cases c2 : (l0.length : Int) > 1048576
  · rw [if_pos c2] at H
    have c2b0 : decide (1048576 < (l0.length : Int)) = true := decide_eq_true c2
    have c2b1 : decide (1048576 < l0.length) = true := decide_eq_true (by omega)
    clear c2
    obtain rfl := Option.some.inj H
    go_enter Try.func9, Try.ntmps9
    go_wp2
    go_ret
    exact ⟨by first | rfl | (simp [errW_none, errW_some] <;> rfl) | (simp [*, errW_none, errW_some] <;> rfl), by repeat (first | (with_reducible first | exact HB.out | apply below_alloc | apply pw_below_drewN | apply below_drew1) | exact HB.out)⟩
  · rw [if_neg c2] at H
    have c2b0 : decide (1048576 < (l0.length : Int)) = false := decide_eq_false c2
    have c2b1 : decide (1048576 < l0.length) = false := decide_eq_false (by omega)
    clear c2
    replace H := Option.bind_eq_some_iff.mp H
    obtain ⟨t393, A30, H⟩ := H
    replace H : ((spec_FirstWrongGreedy.f k t393).bind fun bt396 => ((laws_toInt64S.f k l0).bind fun t398 => ((impl_FirstWrongGreedy.f k t398).bind fun bt401 => (if bt401.1 = bt396.1 then (laws_FnExactFirstWrongGreedy.j0 k l0 t398 (bt401.2 != bt396.2)) else (laws_FnExactFirstWrongGreedy.j0 k l0 t398 true))))) = some r := H
    have A3 := Aside0.mk A30
    clear A30
    replace H := Option.bind_eq_some_iff.mp H
    obtain ⟨⟨t396, t397⟩, A40, H⟩ := H
    replace H : ((laws_toInt64S.f k l0).bind fun t398 => ((impl_FirstWrongGreedy.f k t398).bind fun bt401 => (if bt401.1 = t396 then (laws_FnExactFirstWrongGreedy.j0 k l0 t398 (bt401.2 != t397)) else (laws_FnExactFirstWrongGreedy.j0 k l0 t398 true)))) = some r := H
    have A4 := Aside0.mk A40
    clear A40
    replace H := Option.bind_eq_some_iff.mp H
    obtain ⟨t398, A50, H⟩ := H
    replace H : ((impl_FirstWrongGreedy.f k t398).bind fun bt401 => (if bt401.1 = t396 then (laws_FnExactFirstWrongGreedy.j0 k l0 t398 (bt401.2 != t397)) else (laws_FnExactFirstWrongGreedy.j0 k l0 t398 true))) = some r := H
    have A5 := Aside0.mk A50
    clear A50
    replace H := Option.bind_eq_some_iff.mp H
    obtain ⟨⟨t401, t402⟩, A60, H⟩ := H
    replace H : (if t401 = t396 then (laws_FnExactFirstWrongGreedy.j0 k l0 t398 (t402 != t397)) else (laws_FnExactFirstWrongGreedy.j0 k l0 t398 true)) = some r := H
    have A6 := Aside0.mk A60
    clear A60
    have HC7 := Aside0.mk H
    clear H
    go_enter Try.func9, Try.ntmps9
    go_upto_region 6 with (first | ((with_reducible refine gate_callee (f := 18) rfl ?_); refine goesL_ (some 13) rfl rfl Try.func18 (by kernel_rfl) rfl #[.slice A0 l0.length c0] rfl (by (try simp only [List.map_toArray, List.map_cons, List.map_nil]); first | done | rfl | (simp only [List.length_drop, List.length_take]; rfl)) ?_; (with_reducible refine (laws_toInt64S.calls k _ _ l0 t393 _ ?side1 ?side2 A3.out).mono ?_); (case side1 => repeat (first | exact HR0.out | (with_reducible refine Kd.C_alloc ?_ _) | (with_reducible refine Kd.C_drewN ?_ _) | (with_reducible refine Kd.C_drew ?_))); (case side2 => exact HC0.out); rintro e w8 ⟨v394, rfl, ho0, hb⟩; refine ⟨_, rfl, ?_⟩; have n0_ := Aside0.mk (Kd.R_lower ho0 (below_size (by repeat (first | (with_reducible first | exact HB.out | apply below_alloc | apply pw_below_drewN | apply below_drew1) | exact HB.out)))); have n1_ := Aside0.mk (below_step (by repeat (first | (with_reducible first | exact HB.out | apply below_alloc | apply pw_below_drewN | apply below_drew1) | exact HB.out)) hb); clear HB; have HO395 := n0_; have HB := n1_; clear n0_ n1_; (try clear hb); (try clear hb2); (try clear hk); (try clear hi); (try clear ho0); obtain ⟨Ao9, co9, eo9⟩ := Kd.R_slice HO395.out; subst eo9) | ((with_reducible refine gate_callee (f := 29) rfl ?_); refine goesL_ (some 14) rfl rfl Try.func29 (by kernel_rfl) rfl #[.slice Ao9 t393.length co9] rfl (by (try simp only [List.map_toArray, List.map_cons, List.map_nil]); first | done | rfl | (simp only [List.length_drop, List.length_take]; rfl)) ?_; (with_reducible refine (spec_FirstWrongGreedy.calls k _ _ t393 t396 t397 _ ?side1 ?side2 A4.out).mono ?_); (case side1 => repeat (first | exact (Kd.R_reads' HO395.out).2.2 | (with_reducible refine Kd.C_alloc ?_ _) | (with_reducible refine Kd.C_drewN ?_ _) | (with_reducible refine Kd.C_drew ?_))); (case side2 => exact (Kd.R_reads' HO395.out).2.1); rintro e w10 ⟨rfl, hb⟩; refine ⟨_, rfl, ?_⟩; have n0_ := Aside0.mk (Kd.R_below (by (with_reducible repeat (first | apply Kd.R_alloc | apply Kd.R_drewN | apply Kd.R_drew)); exact HO395.out) hb); have n1_ := Aside0.mk (below_step (by repeat (first | (with_reducible first | exact HB.out | apply below_alloc | apply pw_below_drewN | apply below_drew1) | exact HB.out)) hb); clear HO395; clear HB; have HO395 := n0_; have HB := n1_; clear n0_ n1_; (try clear hb); (try clear hb2); (try clear hk); (try clear hi)) | ((with_reducible refine gate_callee (f := 18) rfl ?_); refine goesL_ (some 18) rfl rfl Try.func18 (by kernel_rfl) rfl #[.slice A0 l0.length c0] rfl (by (try simp only [List.map_toArray, List.map_cons, List.map_nil]); first | done | rfl | (simp only [List.length_drop, List.length_take]; rfl)) ?_; (with_reducible refine (laws_toInt64S.calls k _ _ l0 t398 _ ?side1 ?side2 A5.out).mono ?_); (case side1 => repeat (first | exact (Kd.C_below HR0.out HB.out) | (with_reducible refine Kd.C_alloc ?_ _) | (with_reducible refine Kd.C_drewN ?_ _) | (with_reducible refine Kd.C_drew ?_))); (case side2 => exact HC0.out); rintro e w11 ⟨v399, rfl, ho0, hb⟩; refine ⟨_, rfl, ?_⟩; have n0_ := Aside0.mk (Kd.R_elder' (by (with_reducible repeat (first | apply Kd.R_alloc | apply Kd.R_drewN | apply Kd.R_drew)); exact HO395.out) (Kd.R_base ho0) hb); have n1_ := Aside0.mk (Kd.R_lower (Kd.R_new' ho0 (Kd.R_lt (by (with_reducible repeat (first | apply Kd.R_alloc | apply Kd.R_drewN | apply Kd.R_drew)); exact HO395.out))) (below_size (by repeat (first | (with_reducible first | exact HB.out | apply below_alloc | apply pw_below_drewN | apply below_drew1) | exact HB.out)))); have n2_ := Aside0.mk (below_step (by repeat (first | (with_reducible first | exact HB.out | apply below_alloc | apply pw_below_drewN | apply below_drew1) | exact HB.out)) hb); clear HO395; clear HB; have HO395 := n0_; have HO400 := n1_; have HB := n2_; clear n0_ n1_ n2_; (try clear hb); (try clear hb2); (try clear hk); (try clear hi); (try clear ho0); obtain ⟨Ao12, co12, eo12⟩ := Kd.R_slice HO400.out; subst eo12) | ((with_reducible refine gate_callee (f := 30) rfl ?_); refine goesL_ (some 21) rfl rfl Try.func30 (by kernel_rfl) rfl #[.slice Ao12 t398.length co12] rfl (by (try simp only [List.map_toArray, List.map_cons, List.map_nil]); first | done | rfl | (simp only [List.length_drop, List.length_take]; rfl)) ?_; (with_reducible refine (impl_FirstWrongGreedy.calls k _ _ t398 t401 t402 _ ?side1 ?side2 A6.out).mono ?_); (case side1 => repeat (first | exact (Kd.R_reads' HO400.out).2.2 | (with_reducible refine Kd.C_alloc ?_ _) | (with_reducible refine Kd.C_drewN ?_ _) | (with_reducible refine Kd.C_drew ?_))); (case side2 => exact (Kd.R_reads' HO400.out).2.1); rintro e w13 ⟨rfl, hb⟩; refine ⟨_, rfl, ?_⟩; have n0_ := Aside0.mk (Kd.R_below (by (with_reducible repeat (first | apply Kd.R_alloc | apply Kd.R_drewN | apply Kd.R_drew)); exact HO395.out) hb); have n1_ := Aside0.mk (Kd.R_below (by (with_reducible repeat (first | apply Kd.R_alloc | apply Kd.R_drewN | apply Kd.R_drew)); exact HO400.out) hb); have n2_ := Aside0.mk (below_step (by repeat (first | (with_reducible first | exact HB.out | apply below_alloc | apply pw_below_drewN | apply below_drew1) | exact HB.out)) hb); clear HO395; clear HO400; clear HB; have HO395 := n0_; have HO400 := n1_; have HB := n2_; clear n0_ n1_ n2_; (try clear hb); (try clear hb2); (try clear hk); (try clear hi)))
    (try simp only [Act.put, List.setIfInBounds_toArray, List.set_cons_zero, List.set_cons_succ])
    go_cut [31] (fun v31 wc => ∃ (kq : Nat) (x31_6 : Bool), v31 = .bool x31_6 ∧ Aside0 (laws_FnExactFirstWrongGreedy.j0 kq l0 t398 x31_6 = some r) ∧ Aside0 (kq ≤ k) ∧ Aside0 (Kd.R (Kd.int .i64) 2 wc w.heap.size (fun _ => True) (.slice Ao12 t398.length co12) t398) ∧ Aside0 (Below w.heap.size w wc))
    case first =>
      have H := HC7.out
      clear HC7
      by_cases c14 : t401 = t396
      · rw [if_pos c14] at H
        have c14b0 : (t401 == t396) = true := beq_iff_eq.mpr c14
        have c14b1 : (t401 != t396) = false := bne_eq_false_iff_eq.mpr c14
        clear c14
        (first | rw [c14b0] | (simp only [i64_w, i32_w]; rw [c14b0]) | skip)
        have H' := Aside0.mk H
        clear H
        go_wp2
        go_meet
        case rel => exact ⟨_, ((t402 != t397)), (by first | rfl | (simp; done) | (simp [*]; done)), H', ⟨by first | omega | exact Nat.le_refl _⟩, ⟨by (with_reducible repeat (first | apply Kd.R_alloc | apply Kd.R_drewN | apply Kd.R_drew)); exact Kd.R_mono HO400.out (fun _ hk => trivial)⟩, ⟨by repeat (first | (with_reducible first | exact HB.out | apply below_alloc | apply pw_below_drewN | apply below_drew1) | exact HB.out)⟩⟩
      · rw [if_neg c14] at H
        have c14b0 : (t401 == t396) = false := beq_eq_false_iff_ne.mpr c14
        have c14b1 : (t401 != t396) = true := bne_iff_ne.mpr c14
        (first | rw [c14b0] | (simp only [i64_w, i32_w]; rw [c14b0]) | skip)
        have H' := Aside0.mk H
        clear H
        go_wp2
        go_meet
        case rel => exact ⟨_, (true), (by first | rfl | (simp; done) | (simp [*]; done)), H', ⟨by first | omega | exact Nat.le_refl _⟩, ⟨by (with_reducible repeat (first | apply Kd.R_alloc | apply Kd.R_drewN | apply Kd.R_drew)); exact Kd.R_mono HO400.out (fun _ hk => trivial)⟩, ⟨by repeat (first | (with_reducible first | exact HB.out | apply below_alloc | apply pw_below_drewN | apply below_drew1) | exact HB.out)⟩⟩
    case rest =>
      clear HC7
      try clear c1
      try clear c2
      try clear c2b0
      try clear c2b1
      try clear p2
      try clear c3
      try clear c9
      try clear c14
      try clear c14b0
      try clear c14b1
      obtain ⟨kq, x31_6, rfl, HA, HJ6, HO_5, HB⟩ := hcut
      cases kq with
      | zero => exact absurd HA.out (by simp [laws_FnExactFirstWrongGreedy.j0])
      | succ kj6 =>
        have H := HA.out
        clear HA
        simp only [laws_FnExactFirstWrongGreedy.j0] at H
        by_cases c15 : x31_6 = true
        · subst c15
          have H1 : (some false) = some r := by rw [if_pos rfl] at H; exact H
          clear H
          have H := H1
          clear H1
          exact absurd ((Option.some.inj H).trans HLAW.out) (by decide)
        · replace c15 := Bool.eq_false_iff.mpr c15
          subst c15
          have H1 : ((laws_toInt64S.f kj6 l0).bind fun t403 => ((laws_eqInt64S.f kj6 t398 t403).bind fun t406 => (if t406 = true then (some true) else (some false)))) = some r := by rw [if_neg (show ¬ (false = true) by decide)] at H; exact H
          clear H
          have H := H1
          clear H1
          replace H := Option.bind_eq_some_iff.mp H
          obtain ⟨t403, A160, H⟩ := H
          replace H : ((laws_eqInt64S.f kj6 t398 t403).bind fun t406 => (if t406 = true then (some true) else (some false))) = some r := H
          have A16 := Aside0.mk A160
          clear A160
          replace H := Option.bind_eq_some_iff.mp H
          obtain ⟨t406, A170, H⟩ := H
          replace H : (if t406 = true then (some true) else (some false)) = some r := H
          have A17 := Aside0.mk A170
          clear A170
          by_cases c18 : t406 = true
          · subst c18
            have H1 : (some true) = some r := by rw [if_pos rfl] at H; exact H
            clear H
            have H := H1
            clear H1
            obtain rfl := Option.some.inj H
            go_wp2_with (first | ((with_reducible refine gate_callee (f := 18) rfl ?_); refine goesL_ (some 34) rfl rfl Try.func18 (by kernel_rfl) rfl #[.slice A0 l0.length c0] rfl (by (try simp only [List.map_toArray, List.map_cons, List.map_nil]); first | done | rfl | (simp only [List.length_drop, List.length_take]; rfl)) ?_; (with_reducible refine (laws_toInt64S.calls kj6 _ _ l0 t403 _ ?side1 ?side2 A16.out).mono ?_); (case side1 => repeat (first | exact (Kd.C_below HR0.out HB.out) | (with_reducible refine Kd.C_alloc ?_ _) | (with_reducible refine Kd.C_drewN ?_ _) | (with_reducible refine Kd.C_drew ?_))); (case side2 => exact HC0.out); rintro e w19 ⟨v404, rfl, ho0, hb⟩; refine ⟨_, rfl, ?_⟩; have n0_ := Aside0.mk (Kd.R_elder' (by (with_reducible repeat (first | apply Kd.R_alloc | apply Kd.R_drewN | apply Kd.R_drew)); exact HO_5.out) (Kd.R_base ho0) hb); have n1_ := Aside0.mk (Kd.R_lower (Kd.R_new' ho0 (Kd.R_lt (by (with_reducible repeat (first | apply Kd.R_alloc | apply Kd.R_drewN | apply Kd.R_drew)); exact HO_5.out))) (below_size (by repeat (first | (with_reducible first | exact HB.out | apply below_alloc | apply pw_below_drewN | apply below_drew1) | exact HB.out)))); have n2_ := Aside0.mk (below_step (by repeat (first | (with_reducible first | exact HB.out | apply below_alloc | apply pw_below_drewN | apply below_drew1) | exact HB.out)) hb); clear HO_5; clear HB; have HO_5 := n0_; have HO405 := n1_; have HB := n2_; clear n0_ n1_ n2_; (try clear hb); (try clear hb2); (try clear hk); (try clear hi); (try clear ho0); obtain ⟨Ao20, co20, eo20⟩ := Kd.R_slice HO405.out; subst eo20) | ((with_reducible refine gate_callee (f := 20) rfl ?_); refine goesL_ (some 35) rfl rfl Try.func20 (by kernel_rfl) rfl #[.slice Ao12 t398.length co12, .slice Ao20 t403.length co20] rfl (by (try simp only [List.map_toArray, List.map_cons, List.map_nil]); first | done | rfl | (simp only [List.length_drop, List.length_take]; rfl)) ?_; (with_reducible refine (laws_eqInt64S.calls kj6 _ _ t398 _ _ t403 true _ ?side1 ?side2 ?side3 ?side4 A17.out).mono ?_); (case side1 => repeat (first | exact (Kd.R_reads' HO_5.out).2.2 | (with_reducible refine Kd.C_alloc ?_ _) | (with_reducible refine Kd.C_drewN ?_ _) | (with_reducible refine Kd.C_drew ?_))); (case side2 => exact (Kd.R_reads' HO_5.out).2.1); (case side3 => repeat (first | exact (Kd.R_reads' HO405.out).2.2 | (with_reducible refine Kd.C_alloc ?_ _) | (with_reducible refine Kd.C_drewN ?_ _) | (with_reducible refine Kd.C_drew ?_))); (case side4 => exact (Kd.R_reads' HO405.out).2.1); rintro e w' ⟨rfl, ⟨nd, rfl⟩⟩; refine ⟨_, rfl, ?_⟩))
            go_ret
            exact ⟨by first | rfl | (simp [errW_none, errW_some] <;> rfl) | (simp [*, errW_none, errW_some] <;> rfl), by repeat (first | (with_reducible first | exact HB.out | apply below_alloc | apply pw_below_drewN | apply below_drew1) | exact HB.out)⟩
          · replace c18 := Bool.eq_false_iff.mpr c18
            subst c18
            have H1 : (some false) = some r := by rw [if_neg (show ¬ (false = true) by decide)] at H; exact H
            clear H
            have H := H1
            clear H1
            exact absurd ((Option.some.inj H).trans HLAW.out) (by decide)

/-- THE ONE PURE STATEMENT of laws_FnExactFirstWrongGreedy: yours. -/
def laws_FnExactFirstWrongGreedy.Pure : Prop := ∀ (l0 : List Int), l0.length ≤ maxLen → l0.length * 8 ≤ 140737488351232 → (∀ x ∈ l0, (Lit.int .i64 x).wf = true) → ∃ k, laws_FnExactFirstWrongGreedy.f k l0 = some true
theorem laws_FnExactFirstWrongGreedy.walk (P : laws_FnExactFirstWrongGreedy.Pure) (a0 : Option Addr) (len0 cap0 : Nat) (z0 : List Int) (w : World) (w0 : (a0 = none ∧ len0 = 0 ∧ cap0 = 0 ∧ z0 = []) ∨ ∃ x, a0 = some x ∧ len0 ≤ cap0 ∧ cap0 ≤ maxLen ∧ z0.length = cap0 ∧ (∀ i, i < z0.length → w.cell? (x.add i) = some (.int .i64 (z0.getD i 0))) ∧ ∀ n ∈ z0, (Lit.int .i64 n).wf = true) (y0 : len0 * 8 ≤ 140737488351232) :
    Calls Try.prog 9 #[.slice a0 len0 cap0] w fun e w' => e = .returned (.bool true) ∧ Below w.heap.size w w' := by
  obtain ⟨l0, rfl, hr0, hm0, hw0, hc0⟩ := ReadsInt.ofRowC w0
  obtain ⟨k, h⟩ := P l0 hm0 y0 hw0
  refine (laws_FnExactFirstWrongGreedy.calls k _ _ l0 true w (Kd.C_of_reads (d := (0 : Int)) (h1 := fun _ => rfl) hr0) hc0 h).mono ?_
  rintro e w' ⟨rfl, hd⟩
  exact ⟨rfl, hd⟩

end Go.Proofs.Ytaonlhjblocfkaa.P

namespace Go.Proofs.Ytaonlhjblocfkaa.P
open Go.RowKit Go.Proofs.YtaonlhjblocfkaaW.PrintWords Go.Proofs.YtaonlhjblocfkaaW.PrintLast Go.Proofs.YtaonlhjblocfkaaW.PrintMore
attribute [local go_sem] max2_int min2_int max_two min_two max_three min_three max_four min_four   -- for this text's walks alone
set_option linter.unusedVariables false
set_option linter.unusedSimpArgs false

/-! ### laws_heldInt64S: function 26 -/
def laws_heldInt64S.l0 : Nat → List Int → Int → Int → Option (Int)
  | 0, _, _, _ => none
  | k + 1, x0, x1, x5 => if x5 < (x0.length : Int) then (if 0 ≤ x5 then (if (rd x0 x5) = x1 then (laws_heldInt64S.l0 k x0 (wrap64 (x1 + 1)) (wrap64 (x5 + 1))) else (some (-1))) else (none)) else (some x1)
def laws_heldInt64S.f (k : Nat) (l0 : List Int) (a1 : Int) : Option (Int) := laws_heldInt64S.l0 k l0 a1 0
theorem laws_heldInt64S.mono_l : ∀ k, (∀ y0 y1 y2, LeO (laws_heldInt64S.l0 k y0 y1 y2) (laws_heldInt64S.l0 (k + 1) y0 y1 y2))
  | 0 => fun _ _ _ r h => by simp [laws_heldInt64S.l0] at h
  | k + 1 => by
    have ih0 := laws_heldInt64S.mono_l k
    · intro y0 y1 y2
      unfold laws_heldInt64S.l0
      repeat' first
      | (with_reducible exact ih0 _ _ _)
      | (with_reducible exact LeO.refl _)
      | (with_reducible exact LeO.none _)
      | (with_reducible refine LeO.ite ?_ ?_)
      | (with_reducible refine LeO.bind ?_ (fun _ => ?_))
      | exact ih0 _ _ _
      | exact LeO.none _
      | refine LeO.ite ?_ ?_
      | refine LeO.bind ?_ (fun _ => ?_)
theorem laws_heldInt64S.mono : ∀ a0 a1 k, LeO (laws_heldInt64S.f k a0 a1) (laws_heldInt64S.f (k + 1) a0 a1) := by
  intro a0 a1 k
  have ih0 := laws_heldInt64S.mono_l k
  unfold laws_heldInt64S.f
  repeat' first
      | (with_reducible exact ih0 _ _ _)
      | (with_reducible exact LeO.refl _)
      | (with_reducible exact LeO.none _)
      | (with_reducible refine LeO.ite ?_ ?_)
      | (with_reducible refine LeO.bind ?_ (fun _ => ?_))
      | exact ih0 _ _ _
      | exact LeO.none _
      | refine LeO.ite ?_ ?_
      | refine LeO.bind ?_ (fun _ => ?_)
set_option maxHeartbeats 8000000 in
set_option maxRecDepth 100000 in
theorem laws_heldInt64S.calls (k : Nat) (A0 : Option Addr) (c0 : Nat) (l0 : List Int) (a1 : Int) (r : Int) (w : World) (hr0 : Kd.C (Kd.int .i64) w A0 l0.length l0) (hc0 : l0.length ≤ c0) (h : laws_heldInt64S.f k l0 a1 = some r) :
    Calls Try.prog 26 #[.slice A0 l0.length c0, .int .i64 a1] w fun e w' => e = .returned (.int .i64 r) ∧ Drawn0 w w' := by
  have HR0 := Aside0.mk hr0
  have HC0 := Aside0.mk hc0
  clear hr0 hc0
  have H : (laws_heldInt64S.l0 k l0 a1 0) = some r := h
  clear h
  have H' := Aside0.mk H
  clear H
  go_enter Try.func26, Try.ntmps26
  go_wp2
  go_loopg [1, 5] k (fun kq v1 v5 w' => ∃ (x1_1 : Int) (x5_1 : Int), v1 = .int .i64 x1_1 ∧ v5 = .int .i64 x5_1 ∧ Aside0 (laws_heldInt64S.l0 kq l0 x1_1 x5_1 = some r) ∧ Aside0 (kq ≤ k) ∧ Drawn0 w w')
  case atStart => exact ⟨(a1), (0), (by first | rfl | (simp; done) | (simp [*]; done)), (by first | rfl | (simp; done) | (simp [*]; done)), H', ⟨Nat.le_refl _⟩, by repeat (first | exact Drawn0.refl _ | apply Drawn0.step)⟩
  case round =>
    clear H'
    try clear c2
    try clear p2
    obtain ⟨x1_1, x5_1, rfl, rfl, HA, HK1, ⟨m1, rfl⟩⟩ := hrel
    cases gk with
    | zero => exact absurd HA.out (by simp [laws_heldInt64S.l0])
    | succ k1 =>
      have H := HA.out
      clear HA
      simp only [laws_heldInt64S.l0] at H
      by_cases c3 : x5_1 < (l0.length : Int)
      · rw [if_pos c3] at H
        have c3b0 : decide (x5_1 < (l0.length : Int)) = true := decide_eq_true c3
        clear c3
        by_cases c4 : 0 ≤ x5_1
        · rw [if_pos c4] at H
          have c4b0 : decide (0 ≤ x5_1) = true := decide_eq_true c4
          clear c4
          by_cases c5 : (rd l0 x5_1) = x1_1
          · rw [if_pos c5] at H
            have c5b0 : ((rd l0 x5_1) == x1_1) = true := beq_iff_eq.mpr c5
            have c5b1 : ((rd l0 x5_1) != x1_1) = false := bne_eq_false_iff_eq.mpr c5
            clear c5
            have H' := Aside0.mk H
            clear H
            have p283 : 0 ≤ (x5_1 : Int) := of_decide_eq_true (by first | (with_reducible assumption) | assumption)
            have q283 : x5_1 < (l0.length : Int) := of_decide_eq_true (by first | (with_reducible assumption) | assumption)
            obtain ⟨ad283, e283, hx283_0⟩ := Kd.at_int HR0.out x5_1 p283 q283
            cases e283
            replace p283 := eq_true p283
            replace q283 := eq_true q283
            go_wp2
            go_roundg k1
            case measure => have := HK1.out; omega
            case rel => exact ⟨(wrap64 (x1_1 + 1)), (wrap64 (x5_1 + 1)), (by first | rfl | (simp; done) | (simp [*]; done)), (by first | rfl | (simp; done) | (simp [*]; done)), H', ⟨by have := HK1.out; omega⟩, by repeat (first | exact Drawn0.refl _ | apply Drawn0.step)⟩
          · rw [if_neg c5] at H
            have c5b0 : ((rd l0 x5_1) == x1_1) = false := beq_eq_false_iff_ne.mpr c5
            have c5b1 : ((rd l0 x5_1) != x1_1) = true := bne_iff_ne.mpr c5
            obtain rfl := Option.some.inj H
            have p283 : 0 ≤ (x5_1 : Int) := of_decide_eq_true (by first | (with_reducible assumption) | assumption)
            have q283 : x5_1 < (l0.length : Int) := of_decide_eq_true (by first | (with_reducible assumption) | assumption)
            obtain ⟨ad283, e283, hx283_0⟩ := Kd.at_int HR0.out x5_1 p283 q283
            cases e283
            replace p283 := eq_true p283
            replace q283 := eq_true q283
            go_wp2
            go_ret
            exact ⟨by first | rfl | (simp; done) | (simp [*]; done), by repeat (first | exact Drawn0.refl _ | apply Drawn0.step)⟩
        · rw [if_neg c4] at H
          exact absurd H (by simp)
      · rw [if_neg c3] at H
        have c3b0 : decide (x5_1 < (l0.length : Int)) = false := decide_eq_false c3
        clear c3
        obtain rfl := Option.some.inj H
        go_wp2
        go_ret
        exact ⟨by first | rfl | (simp; done) | (simp [*]; done), by repeat (first | exact Drawn0.refl _ | apply Drawn0.step)⟩

end Go.Proofs.Ytaonlhjblocfkaa.P

namespace Go.Proofs.Ytaonlhjblocfkaa.P
open Go.RowKit Go.Proofs.YtaonlhjblocfkaaW.PrintWords Go.Proofs.YtaonlhjblocfkaaW.PrintLast Go.Proofs.YtaonlhjblocfkaaW.PrintMore
attribute [local go_sem] max2_int min2_int max_two min_two max_three min_three max_four min_four   -- for this text's walks alone
set_option linter.unusedVariables false
set_option linter.unusedSimpArgs false

/-! ### laws_markInt64S: function 25 -/
def laws_markInt64S.l0 : Nat → List Int → Int → Int → Option (Int × List Int)
  | 0, _, _, _ => none
  | k + 1, x0, x1, x5 => if x5 < (x0.length : Int) then (if 0 ≤ x5 then (laws_markInt64S.l0 k (x0.set (x5 : Int).toNat x1) (wrap64 (x1 + 1)) (wrap64 (x5 + 1))) else (none)) else (some (x1, x0))
def laws_markInt64S.f (k : Nat) (l0 : List Int) (a1 : Int) : Option (Int × List Int) := laws_markInt64S.l0 k l0 a1 0
theorem laws_markInt64S.mono_l : ∀ k, (∀ y0 y1 y2, LeO (laws_markInt64S.l0 k y0 y1 y2) (laws_markInt64S.l0 (k + 1) y0 y1 y2))
  | 0 => fun _ _ _ r h => by simp [laws_markInt64S.l0] at h
  | k + 1 => by
    have ih0 := laws_markInt64S.mono_l k
    · intro y0 y1 y2
      unfold laws_markInt64S.l0
      repeat' first
      | (with_reducible exact ih0 _ _ _)
      | (with_reducible exact LeO.refl _)
      | (with_reducible exact LeO.none _)
      | (with_reducible refine LeO.ite ?_ ?_)
      | (with_reducible refine LeO.bind ?_ (fun _ => ?_))
      | exact ih0 _ _ _
      | exact LeO.none _
      | refine LeO.ite ?_ ?_
      | refine LeO.bind ?_ (fun _ => ?_)
theorem laws_markInt64S.mono : ∀ a0 a1 k, LeO (laws_markInt64S.f k a0 a1) (laws_markInt64S.f (k + 1) a0 a1) := by
  intro a0 a1 k
  have ih0 := laws_markInt64S.mono_l k
  unfold laws_markInt64S.f
  repeat' first
      | (with_reducible exact ih0 _ _ _)
      | (with_reducible exact LeO.refl _)
      | (with_reducible exact LeO.none _)
      | (with_reducible refine LeO.ite ?_ ?_)
      | (with_reducible refine LeO.bind ?_ (fun _ => ?_))
      | exact ih0 _ _ _
      | exact LeO.none _
      | refine LeO.ite ?_ ?_
      | refine LeO.bind ?_ (fun _ => ?_)
set_option maxHeartbeats 8000000 in
set_option maxRecDepth 100000 in
theorem laws_markInt64S.calls (k : Nat) (P0_ : Nat → Prop) (u9000_ : Value) (l0 : List Int) (a1 : Int) (r1 : Int) (r2 : List Int) (w0 w : World) (hB : Below w0.heap.size w0 w) (ho0 : Kd.R (Kd.int .i64) 2 w w0.heap.size P0_ u9000_ l0) (h : laws_markInt64S.f k l0 a1 = some (r1, r2)) :
    Calls Try.prog 25 #[u9000_, .int .i64 a1] w fun e w' => e = .returned (.int .i64 r1) ∧ Kd.R (Kd.int .i64) 2 w' w0.heap.size (fun k_ => (P0_ k_ ∨ w.heap.size ≤ k_)) u9000_ r2 ∧ Below w0.heap.size w0 w' ∧ Kept w w' (fun k_ => P0_ k_) := by
  have HO0 := Aside0.mk (show Kd.R (Kd.int .i64) 2 w w0.heap.size (fun k_ => (P0_ k_ ∨ w.heap.size ≤ k_)) u9000_ l0 from Kd.R_mono ho0 (fun k_ hk => (.inl hk)))
  have HK := Aside0.mk (Kept.refl w (fun k_ => P0_ k_))
  have HW0 := Aside0.mk hB.size
  have HB := Aside0.mk hB
  clear hB
  have H : (laws_markInt64S.l0 k l0 a1 0) = some (r1, r2) := h
  clear h
  have H' := Aside0.mk H
  clear H
  go_enter Try.func25, Try.ntmps25
  go_wp2
  go_loopg [1, 5] k (fun kq v1 v5 w' => ∃ (x0_1 : List Int) (x1_1 : Int) (x5_1 : Int), v1 = .int .i64 x1_1 ∧ v5 = .int .i64 x5_1 ∧ Aside0 (laws_markInt64S.l0 kq x0_1 x1_1 x5_1 = some (r1, r2)) ∧ Aside0 (kq ≤ k) ∧ Aside0 (Kd.R (Kd.int .i64) 2 w' w0.heap.size (fun k_ => (P0_ k_ ∨ w.heap.size ≤ k_)) u9000_ x0_1) ∧ Aside0 (Kept w w' (fun k_ => P0_ k_)) ∧ Aside0 (Below w0.heap.size w0 w'))
  case atStart => exact ⟨(l0), (a1), (0), (by first | rfl | (simp; done) | (simp [*]; done)), (by first | rfl | (simp; done) | (simp [*]; done)), H', ⟨Nat.le_refl _⟩, ⟨by (with_reducible repeat (first | apply Kd.R_alloc | apply Kd.R_drewN | apply Kd.R_drew)); exact HO0.out⟩, ⟨by repeat (first | (with_reducible first | exact HK.out | apply Kept.alloc | apply Kept.drewN | apply Kept.drew) | exact HK.out)⟩, ⟨by repeat (first | (with_reducible first | exact HB.out | apply below_alloc | apply pw_below_drewN | apply below_drew1) | exact HB.out)⟩⟩
  case round =>
    clear H'
    try clear c2
    try clear p2
    obtain ⟨x0_1, x1_1, x5_1, rfl, rfl, HA, HK1, HO_0, HK, HB⟩ := hrel
    cases gk with
    | zero => exact absurd HA.out (by simp [laws_markInt64S.l0])
    | succ k1 =>
      have H := HA.out
      clear HA
      simp only [laws_markInt64S.l0] at H
      by_cases c3 : x5_1 < (x0_1.length : Int)
      · rw [if_pos c3] at H
        have c3b0 : decide (x5_1 < (x0_1.length : Int)) = true := decide_eq_true c3
        clear c3
        by_cases c4 : 0 ≤ x5_1
        · rw [if_pos c4] at H
          have c4b0 : decide (0 ≤ x5_1) = true := decide_eq_true c4
          clear c4
          obtain ⟨y282, hy282⟩ : ∃ y_ : List Int, y_ = (x0_1.set (x5_1 : Int).toNat x1_1) := ⟨_, rfl⟩
          replace H : (laws_markInt64S.l0 k1 y282 (wrap64 (x1_1 + 1)) (wrap64 (x5_1 + 1))) = some (r1, r2) := by first | (rw [hy282]; with_reducible exact H) | (have H2_ := (Option.bind_some _ _).symm.trans H; rw [hy282]; with_reducible exact H2_) | (have H2_ := (Option.bind_some _ _).symm.trans H; with_reducible exact H2_) | with_reducible exact H | (rw [hy282]; exact H) | exact H
          have Ny282 := Aside0.mk hy282
          clear hy282
          have H' := Aside0.mk H
          clear H
          obtain ⟨Ao6, co6, eo6⟩ := Kd.R_slice HO_0.out
          subst eo6
          have p5 : 0 ≤ (x5_1 : Int) := of_decide_eq_true (by first | (with_reducible assumption) | assumption)
          have q5 : (x5_1 : Int) < ((x0_1.length : Int) : Int) := of_decide_eq_true (by first | (with_reducible assumption) | assumption)
          obtain ⟨go5, co5, eo5, gb5, gl5, cl5, HG5⟩ := Kd.R_form HO_0.out (by omega)
          (first | cases eo5 | (injection eo5 with ea_ en_ ec_; (first | subst ea_ | (injection ea_ with ea_; subst ea_)); subst ec_; clear en_))
          have GB5 := Aside0.mk gb5
          have GG5 := Aside0.mk HG5
          clear gb5 gl5 HG5
          have HMgo5 := Aside0.mk (show (P0_ go5 ∨ w.heap.size ≤ go5) from (HO_0.out.1 _ rfl))
          obtain ⟨hx5_0, hf5_0⟩ := Kd.R_celln 0 HO_0.out (x5_1 : Int) p5 q5
          replace p5 := eq_true p5
          replace q5 := eq_true q5
          obtain ⟨hy7_, hz7_⟩ := Kd.R_celln 0 HO_0.out (x5_1 : Int) (of_decide_eq_true (by first | (with_reducible assumption) | assumption)) (of_decide_eq_true (by first | (with_reducible assumption) | assumption))
          have HP7 := Kd.R_putg HO_0.out (x5_1 : Int) x1_1
          go_wp2_with (first | ((with_reducible refine gate_store (t := 2) (p := 15) rfl ?_); refine store_event (t := 2) (p := 15) (v := ?vo_w8) (w1 := (wr.setCell ⟨go5, (x5_1 : Int).toNat, none⟩ (.int .i64 x1_1))) ?hg ?ho ?hn ?hr ?_; (case ho => rfl); (case hg => rfl); (case hn => rfl); (case hr => first | (go_simp; done) | (go_simp; rfl)); intro w8 hw; have hg : wr.grownBy w8 (some go5) := (by rw [hw]; exact HP7.2); have hp_ : Kd.R (Kd.int .i64) 2 w8 w0.heap.size (fun k_ => (P0_ k_ ∨ w.heap.size ≤ k_)) (.slice (some ⟨go5, 0, none⟩) x0_1.length co6) y282 := (by rw [hw, Ny282.out]; exact HP7.1); clear HP7; have n0_ := Aside0.mk (hp_); have n1_ := Aside0.mk ((by rw [hw]; exact below_set (HB.out) GB5.out : Below w0.heap.size w0 w8)); have n2_ := Aside0.mk (Kept.of_grown (S := (fun k_ => P0_ k_)) hg (by repeat (first | (with_reducible first | exact HK.out | apply Kept.alloc | apply Kept.drewN | apply Kept.drew) | exact HK.out)) (fun k_ e_ => (HO_0.out.1 k_ e_))); clear HO_0; clear HB; clear HK; have HO_0 := n0_; have HB := n1_; have HK := n2_; clear n0_ n1_ n2_; clear hg hw hp_))
          go_roundg k1
          case measure => have := HK1.out; omega
          case rel => exact ⟨(y282), (wrap64 (x1_1 + 1)), (wrap64 (x5_1 + 1)), (by first | rfl | (simp; done) | (simp [*]; done)), (by first | rfl | (simp; done) | (simp [*]; done)), H', ⟨by have := HK1.out; omega⟩, ⟨by (with_reducible repeat (first | apply Kd.R_alloc | apply Kd.R_drewN | apply Kd.R_drew)); exact HO_0.out⟩, ⟨by repeat (first | (with_reducible first | exact HK.out | apply Kept.alloc | apply Kept.drewN | apply Kept.drew) | exact HK.out)⟩, ⟨by repeat (first | (with_reducible first | exact HB.out | apply below_alloc | apply pw_below_drewN | apply below_drew1) | exact HB.out)⟩⟩
        · rw [if_neg c4] at H
          exact absurd H (by simp)
      · rw [if_neg c3] at H
        have c3b0 : decide (x5_1 < (x0_1.length : Int)) = false := decide_eq_false c3
        clear c3
        simp only [Option.some.injEq, Prod.mk.injEq] at H
        obtain ⟨rfl, rfl⟩ := H
        obtain ⟨Ao9, co9, eo9⟩ := Kd.R_slice HO_0.out
        subst eo9
        go_wp2
        go_ret
        exact ⟨by first | rfl | (simp [errW_none, errW_some] <;> rfl) | (simp [*, errW_none, errW_some] <;> rfl), by (with_reducible repeat (first | apply Kd.R_alloc | apply Kd.R_drewN | apply Kd.R_drew)); exact HO_0.out, by repeat (first | (with_reducible first | exact HB.out | apply below_alloc | apply pw_below_drewN | apply below_drew1) | exact HB.out), by repeat (first | (with_reducible first | exact HK.out | apply Kept.alloc | apply Kept.drewN | apply Kept.drew) | exact HK.out)⟩

end Go.Proofs.Ytaonlhjblocfkaa.P

namespace Go.Proofs.Ytaonlhjblocfkaa.Pure
open Go.RowKit Go.Proofs.Ytaonlhjblocfkaa.P Go.Proofs.YtaonlhjblocfkaaW.PrintWords Go.Proofs.YtaonlhjblocfkaaW.PrintLast
set_option linter.unusedVariables false
set_option linter.unusedSimpArgs false

theorem EvG {α : Type} {g : Nat → Option α} {r : α} (h : Ev g r) : ∃ K, ∀ k, K ≤ k → g k = some r := h
theorem EvI {α : Type} {g : Nat → Option α} {r : α} (K : Nat) (h : ∀ k, K ≤ k → g k = some r) : Ev g r := ⟨K, h⟩
theorem w64 {x : Int} (h0 : -9223372036854775808 ≤ x) (h1 : x ≤ 9223372036854775807) : wrap64 x = x := by
  unfold wrap64; omega
theorem wN (i : Nat) (h : i < 4611686018427387904) : wrap64 ((i : Int) + 1) = ((i + 1 : Nat) : Int) := by
  unfold wrap64; omega
theorem rdN (l : List Int) (i : Nat) : rd l (i : Int) = l.getD i 0 := rfl
theorem rd_at (l : List Int) (i : Int) (n : Nat) (h : i = n) : rd l i = l.getD n 0 := by subst h; rfl
theorem getD_eq (l : List Int) (i : Nat) (h : i < l.length) : l.getD i 0 = l[i] := by
  rw [List.getD_eq_getElem?_getD, List.getElem?_eq_getElem h]; rfl
theorem getD_mem (l : List Int) (i : Nat) (h : i < l.length) : l.getD i 0 ∈ l := by rw [getD_eq l i h]; exact List.getElem_mem h
theorem list_ext (a b : List Int) (hl : a.length = b.length) (h : ∀ j, j < b.length → a.getD j 0 = b.getD j 0) : a = b := by
  apply List.ext_getElem hl
  intro i h1 h2
  have := h i h2
  rwa [getD_eq a i h1, getD_eq b i h2] at this
theorem getD_set (l : List Int) (i j : Nat) (v : Int) (h : i < l.length) : (l.set i v).getD j 0 = if i = j then v else l.getD j 0 := by
  simp only [List.getD_eq_getElem?_getD, List.getElem?_set]
  by_cases e : i = j
  · subst e; simp [h]
  · simp [e]
theorem getD_rep (n j : Nat) (v : Int) (h : j < n) : (List.replicate n v).getD j 0 = v := by
  simp [List.getD_eq_getElem?_getD, List.getElem?_replicate, h]

end Go.Proofs.Ytaonlhjblocfkaa.Pure

namespace Go.Proofs.Ytaonlhjblocfkaa.Pure
open Go.RowKit Go.Proofs.Ytaonlhjblocfkaa.P Go.Proofs.YtaonlhjblocfkaaW.PrintWords Go.Proofs.YtaonlhjblocfkaaW.PrintLast
set_option linter.unusedVariables false
set_option linter.unusedSimpArgs false

theorem toI_l0 (l : List Int) (hb : l.length ≤ 17592186044415) : ∀ d i x, l.length - i = d → i ≤ l.length → x.length = l.length → (∀ j, j < i → x.getD j 0 = l.getD j 0) → Ev (fun k => laws_toInt64S.l0 k l x (i : Int)) l := by
  intro d
  induction d with
  | zero =>
    intro i x hd hi hx hj
    refine Ev.step (f := fun _ => some x) (fun k => ?_) ?_
    · rw [laws_toInt64S.l0, if_neg (by omega)]
    · have : x = l := list_ext x l hx (fun j h => hj j (by omega))
      rw [this]; exact Ev.now l
  | succ d ih =>
    intro i x hd hi hx hj
    refine Ev.step (fun k => ?_) (ih (i + 1) (x.set i (l.getD i 0)) (by omega) (by omega) (by simpa using hx) ?_)
    · rw [laws_toInt64S.l0, if_pos (by omega), if_pos (by omega), if_pos (by omega), wN i (by omega), rdN, Int.toNat_natCast]
    · intro j h
      rw [getD_set x i j _ (by omega)]
      by_cases e : i = j
      · rw [if_pos e, e]
      · rw [if_neg e]; exact hj j (by omega)
/-- A list is copied. -/
theorem toI (l : List Int) (hb : l.length ≤ 17592186044415) : Ev (fun k => laws_toInt64S.f k l) l := by
  refine Ev.congr (f := fun k => laws_toInt64S.l0 k l (List.replicate l.length 0) ((0 : Nat) : Int)) (fun k => ?_) (toI_l0 l hb _ 0 _ rfl (Nat.zero_le _) (by simp) (fun j h => absurd h (Nat.not_lt_zero _)))
  simp only [laws_toInt64S.f, Int.toNat_natCast]
  rw [if_pos (by omega), if_pos (by omega)]; rfl

theorem eqI_l0 (l : List Int) (hb : l.length ≤ 17592186044415) : ∀ d i, l.length - i = d → i ≤ l.length → Ev (fun k => laws_eqInt64S.l0 k l l (i : Int)) true := by
  intro d
  induction d with
  | zero =>
    intro i hd hi
    refine Ev.step (f := fun _ => some true) (fun k => ?_) (Ev.now true)
    rw [laws_eqInt64S.l0, if_neg (by omega)]
  | succ d ih =>
    intro i hd hi
    refine Ev.step (fun k => ?_) (ih (i + 1) (by omega) (by omega))
    rw [laws_eqInt64S.l0, if_pos (by omega), if_pos (by omega), if_pos (by omega), if_pos rfl, wN i (by omega)]
/-- A list is equal to itself. -/
theorem eqI (l : List Int) (hb : l.length ≤ 17592186044415) : Ev (fun k => laws_eqInt64S.f k l l) true := by
  refine Ev.congr (f := fun k => laws_eqInt64S.l0 k l l ((0 : Nat) : Int)) (fun k => ?_) (eqI_l0 l hb _ 0 rfl (Nat.zero_le _))
  simp only [laws_eqInt64S.f, if_true]; rfl

/-- The numbers from m on. -/
def iota (m : Nat) : Nat → List Int
  | 0 => []
  | n + 1 => (m : Int) :: iota (m + 1) n
theorem iota_len (m n : Nat) : (iota m n).length = n := by
  induction n generalizing m with
  | zero => rfl
  | succ n ih => simp [iota, ih]
theorem iota_at (m n j : Nat) (h : j < n) : (iota m n).getD j 0 = ((m + j : Nat) : Int) := by
  induction n generalizing m j with
  | zero => omega
  | succ n ih =>
    cases j with
    | zero => rfl
    | succ j =>
      have := ih (m + 1) j (by omega)
      simp only [iota, List.getD_cons_succ, this]
      omega

theorem markI_l0 (n m : Nat) (hb : n ≤ 17592186044415) (hm : m ≤ 17592186044415) : ∀ d i x, n - i = d → i ≤ n → x.length = n → (∀ j, j < i → x.getD j 0 = ((m + j : Nat) : Int)) →
    Ev (fun k => laws_markInt64S.l0 k x ((m + i : Nat) : Int) (i : Int)) (((m + n : Nat) : Int), iota m n) := by
  intro d
  induction d with
  | zero =>
    intro i x hd hi hx hj
    obtain rfl : i = n := by omega
    refine Ev.step (f := fun _ => some (((m + i : Nat) : Int), x)) (fun k => ?_) ?_
    · rw [laws_markInt64S.l0, if_neg (by omega)]
    · have : x = iota m i := list_ext x _ (by rw [iota_len]; exact hx) (fun j h => by rw [iota_len] at h; rw [hj j h, iota_at m i j h])
      rw [this]; exact Ev.now _
  | succ d ih =>
    intro i x hd hi hx hj
    refine Ev.step (fun k => ?_) (ih (i + 1) (x.set i ((m + i : Nat) : Int)) (by omega) (by omega) (by simpa using hx) ?_)
    · rw [laws_markInt64S.l0, if_pos (by omega), if_pos (by omega), wN i (by omega), wN (m + i) (by omega), Int.toNat_natCast]; rfl
    · intro j h
      rw [getD_set x i j _ (by omega)]
      by_cases e : i = j
      · rw [if_pos e, e]
      · rw [if_neg e]; exact hj j (by omega)
/-- A list is marked with the numbers from m on. -/
theorem markI (l : List Int) (m : Nat) (hb : l.length ≤ 17592186044415) (hm : m ≤ 17592186044415) : Ev (fun k => laws_markInt64S.f k l (m : Int)) (((m + l.length : Nat) : Int), iota m l.length) :=
  markI_l0 l.length m hb hm _ 0 l rfl (Nat.zero_le _) rfl (fun j h => absurd h (Nat.not_lt_zero _))

theorem heldI_l0 (n m : Nat) (hb : n ≤ 17592186044415) (hm : m ≤ 17592186044415) : ∀ d i, n - i = d → i ≤ n → Ev (fun k => laws_heldInt64S.l0 k (iota m n) ((m + i : Nat) : Int) (i : Int)) ((m + n : Nat) : Int) := by
  intro d
  induction d with
  | zero =>
    intro i hd hi
    obtain rfl : i = n := by omega
    refine Ev.step (f := fun _ => some (((m + i : Nat) : Int))) (fun k => ?_) (Ev.now _)
    rw [laws_heldInt64S.l0, iota_len, if_neg (by omega)]
  | succ d ih =>
    intro i hd hi
    refine Ev.step (fun k => ?_) (ih (i + 1) (by omega) (by omega))
    rw [laws_heldInt64S.l0, iota_len, if_pos (by omega), if_pos (by omega), rdN, iota_at m n i (by omega), if_pos rfl, wN i (by omega), wN (m + i) (by omega)]; rfl
/-- What was marked is found again. -/
theorem heldI (n m : Nat) (hb : n ≤ 17592186044415) (hm : m ≤ 17592186044415) : Ev (fun k => laws_heldInt64S.f k (iota m n) (m : Int)) ((m + n : Nat) : Int) :=
  heldI_l0 n m hb hm _ 0 rfl (Nat.zero_le _)

end Go.Proofs.Ytaonlhjblocfkaa.Pure

namespace Go.Proofs.Ytaonlhjblocfkaa.P
open Go.RowKit Go.Proofs.YtaonlhjblocfkaaW.PrintWords Go.Proofs.YtaonlhjblocfkaaW.PrintLast Go.Proofs.YtaonlhjblocfkaaW.PrintMore
attribute [local go_sem] max2_int min2_int max_two min_two max_three min_three max_four min_four   -- for this text's walks alone
set_option linter.unusedVariables false
set_option linter.unusedSimpArgs false

/-! ### impl_unless: function 70 -/
def impl_unless.f (a0 : Bool) (a1 : Int) : Option (Int) := if a0 = true then (some 0) else (some a1)
set_option maxHeartbeats 8000000 in
set_option maxRecDepth 100000 in
theorem impl_unless.calls (a0 : Bool) (a1 : Int) (r : Int) (w : World) (h : impl_unless.f a0 a1 = some r) :
    Calls Try.prog 70 #[.bool a0, .int .i64 a1] w fun e w' => e = .returned (.int .i64 r) ∧ Drawn0 w w' := by
  have H : (if a0 = true then (some 0) else (some a1)) = some r := h
  clear h
  by_cases c3 : a0 = true
  · subst c3
    have H1 : (some 0) = some r := by rw [if_pos rfl] at H; exact H
    clear H
    have H := H1
    clear H1
    obtain rfl := Option.some.inj H
    go_enter Try.func70, Try.ntmps70
    go_wp2
    go_ret
    exact ⟨by first | rfl | (simp; done) | (simp [*]; done), by repeat (first | exact Drawn0.refl _ | apply Drawn0.step)⟩
  · replace c3 := Bool.eq_false_iff.mpr c3
    subst c3
    have H1 : (some a1) = some r := by rw [if_neg (show ¬ (false = true) by decide)] at H; exact H
    clear H
    have H := H1
    clear H1
    obtain rfl := Option.some.inj H
    go_enter Try.func70, Try.ntmps70
    go_wp2
    go_ret
    exact ⟨by first | rfl | (simp; done) | (simp [*]; done), by repeat (first | exact Drawn0.refl _ | apply Drawn0.step)⟩

end Go.Proofs.Ytaonlhjblocfkaa.P

namespace Go.Proofs.Ytaonlhjblocfkaa.P
open Go.RowKit Go.Proofs.YtaonlhjblocfkaaW.PrintWords Go.Proofs.YtaonlhjblocfkaaW.PrintLast Go.Proofs.YtaonlhjblocfkaaW.PrintMore
attribute [local go_sem] max2_int min2_int max_two min_two max_three min_three max_four min_four   -- for this text's walks alone
set_option linter.unusedVariables false
set_option linter.unusedSimpArgs false

/-! ### impl_valuesCode: function 51 -/
def impl_valuesCode.f (k : Nat) (l0 : List Int) (a1 : Int) (a2 : Int) : Option (Int) := (impl_ValidValues.f k l0).bind fun t170 => (if t170 = true then ((impl_within.f a1 0 a2).bind fun t171 => ((impl_unless.f t171 2).bind fun t172 => (some t172))) else (some 1))
theorem impl_valuesCode.mono : ∀ a0 a1 a2 k, LeO (impl_valuesCode.f k a0 a1 a2) (impl_valuesCode.f (k + 1) a0 a1 a2) := by
  intro a0 a1 a2 k
  unfold impl_valuesCode.f
  repeat' first
      | (with_reducible exact impl_ValidValues.mono _ _)
      | (with_reducible exact LeO.refl _)
      | (with_reducible exact LeO.none _)
      | (with_reducible refine LeO.ite ?_ ?_)
      | (with_reducible refine LeO.bind ?_ (fun _ => ?_))
      | exact impl_ValidValues.mono _ _
      | exact LeO.none _
      | refine LeO.ite ?_ ?_
      | refine LeO.bind ?_ (fun _ => ?_)
set_option maxHeartbeats 8000000 in
set_option maxRecDepth 100000 in
theorem impl_valuesCode.calls (k : Nat) (A0 : Option Addr) (c0 : Nat) (l0 : List Int) (a1 : Int) (a2 : Int) (r : Int) (w : World) (hr0 : Kd.C (Kd.int .i64) w A0 l0.length l0) (hc0 : l0.length ≤ c0) (h : impl_valuesCode.f k l0 a1 a2 = some r) :
    Calls Try.prog 51 #[.slice A0 l0.length c0, .int .i64 a1, .int .i64 a2] w fun e w' => e = .returned (.int .i64 r) ∧ Below w.heap.size w w' := by
  have HR0 := Aside0.mk hr0
  have HC0 := Aside0.mk hc0
  clear hr0 hc0
  have HB := Aside0.mk (Below.refl w.heap.size w)
  have H : ((impl_ValidValues.f k l0).bind fun t170 => (if t170 = true then ((impl_within.f a1 0 a2).bind fun t171 => ((impl_unless.f t171 2).bind fun t172 => (some t172))) else (some 1))) = some r := h
  clear h
  replace H := Option.bind_eq_some_iff.mp H
  obtain ⟨t170, A40, H⟩ := H
  replace H : (if t170 = true then ((impl_within.f a1 0 a2).bind fun t171 => ((impl_unless.f t171 2).bind fun t172 => (some t172))) else (some 1)) = some r := H
  have A4 := Aside0.mk A40
  clear A40
  by_cases c5 : t170 = true
  · subst c5
    have H1 : ((impl_within.f a1 0 a2).bind fun t171 => ((impl_unless.f t171 2).bind fun t172 => (some t172))) = some r := by rw [if_pos rfl] at H; exact H
    clear H
    have H := H1
    clear H1
    replace H := Option.bind_eq_some_iff.mp H
    obtain ⟨t171, A60, H⟩ := H
    replace H : ((impl_unless.f t171 2).bind fun t172 => (some t172)) = some r := H
    have A6 := Aside0.mk A60
    clear A60
    replace H := Option.bind_eq_some_iff.mp H
    obtain ⟨t172, A70, H⟩ := H
    replace H : (some t172) = some r := H
    have A7 := Aside0.mk A70
    clear A70
    obtain rfl := Option.some.inj H
    go_enter Try.func51, Try.ntmps51
    go_wp2_with (first | ((with_reducible refine gate_callee (f := 19) rfl ?_); refine goesL_ (some 8) rfl rfl Try.func19 (by kernel_rfl) rfl #[.slice A0 l0.length c0] rfl (by (try simp only [List.map_toArray, List.map_cons, List.map_nil]); first | done | rfl | (simp only [List.length_drop, List.length_take]; rfl)) ?_; (with_reducible refine (impl_ValidValues.calls k _ _ l0 true _ ?side1 ?side2 A4.out).mono ?_); (case side1 => repeat (first | exact HR0.out | (with_reducible refine Kd.C_alloc ?_ _) | (with_reducible refine Kd.C_drewN ?_ _) | (with_reducible refine Kd.C_drew ?_))); (case side2 => exact HC0.out); rintro e w8 ⟨rfl, hb⟩; refine ⟨_, rfl, ?_⟩; have n0_ := Aside0.mk (below_step (by repeat (first | (with_reducible first | exact HB.out | apply below_alloc | apply pw_below_drewN | apply below_drew1) | exact HB.out)) hb); clear HB; have HB := n0_; clear n0_; (try clear hb); (try clear hb2); (try clear hk); (try clear hi)) | ((with_reducible refine gate_callee (f := 42) rfl ?_); refine goesL_ (some 12) rfl rfl Try.func42 (by kernel_rfl) rfl #[.int .i64 a1, .int .i64 0, .int .i64 a2] rfl (by (try simp only [List.map_toArray, List.map_cons, List.map_nil]); first | done | rfl | (simp only [List.length_drop, List.length_take]; rfl)) ?_; (with_reducible refine (impl_within.calls a1 0 a2 t171 _ A6.out).mono ?_); rintro e w' ⟨rfl, ⟨nd, rfl⟩⟩; refine ⟨_, rfl, ?_⟩) | ((with_reducible refine gate_callee (f := 70) rfl ?_); refine goesL_ (some 13) rfl rfl Try.func70 (by kernel_rfl) rfl #[.bool t171, .int .i64 2] rfl (by (try simp only [List.map_toArray, List.map_cons, List.map_nil]); first | done | rfl | (simp only [List.length_drop, List.length_take]; rfl)) ?_; (with_reducible refine (impl_unless.calls t171 2 t172 _ A7.out).mono ?_); rintro e w' ⟨rfl, ⟨nd, rfl⟩⟩; refine ⟨_, rfl, ?_⟩))
    go_ret
    exact ⟨by first | rfl | (simp [errW_none, errW_some] <;> rfl) | (simp [*, errW_none, errW_some] <;> rfl), by repeat (first | (with_reducible first | exact HB.out | apply below_alloc | apply pw_below_drewN | apply below_drew1) | exact HB.out)⟩
  · replace c5 := Bool.eq_false_iff.mpr c5
    subst c5
    have H1 : (some 1) = some r := by rw [if_neg (show ¬ (false = true) by decide)] at H; exact H
    clear H
    have H := H1
    clear H1
    obtain rfl := Option.some.inj H
    go_enter Try.func51, Try.ntmps51
    go_wp2_with (first | ((with_reducible refine gate_callee (f := 19) rfl ?_); refine goesL_ (some 8) rfl rfl Try.func19 (by kernel_rfl) rfl #[.slice A0 l0.length c0] rfl (by (try simp only [List.map_toArray, List.map_cons, List.map_nil]); first | done | rfl | (simp only [List.length_drop, List.length_take]; rfl)) ?_; (with_reducible refine (impl_ValidValues.calls k _ _ l0 false _ ?side1 ?side2 A4.out).mono ?_); (case side1 => repeat (first | exact HR0.out | (with_reducible refine Kd.C_alloc ?_ _) | (with_reducible refine Kd.C_drewN ?_ _) | (with_reducible refine Kd.C_drew ?_))); (case side2 => exact HC0.out); rintro e w9 ⟨rfl, hb⟩; refine ⟨_, rfl, ?_⟩; have n0_ := Aside0.mk (below_step (by repeat (first | (with_reducible first | exact HB.out | apply below_alloc | apply pw_below_drewN | apply below_drew1) | exact HB.out)) hb); clear HB; have HB := n0_; clear n0_; (try clear hb); (try clear hb2); (try clear hk); (try clear hi)))
    go_ret
    exact ⟨by first | rfl | (simp [errW_none, errW_some] <;> rfl) | (simp [*, errW_none, errW_some] <;> rfl), by repeat (first | (with_reducible first | exact HB.out | apply below_alloc | apply pw_below_drewN | apply below_drew1) | exact HB.out)⟩

end Go.Proofs.Ytaonlhjblocfkaa.P

namespace Go.Proofs.Ytaonlhjblocfkaa.P
open Go.RowKit Go.Proofs.YtaonlhjblocfkaaW.PrintWords Go.Proofs.YtaonlhjblocfkaaW.PrintLast Go.Proofs.YtaonlhjblocfkaaW.PrintMore
attribute [local go_sem] max2_int min2_int max_two min_two max_three min_three max_four min_four   -- for this text's walks alone
set_option linter.unusedVariables false
set_option linter.unusedSimpArgs false

/-! ### spec_l01Asked: function 48 -/
def spec_l01Asked.f (k : Nat) (l0 : List Int) (a1 : Bool) : Option (Int) := (spec_l01Values.f k l0).bind fun t145 => (if t145 = true then (if a1 = true then (some 0) else (some 2)) else (some 1))
theorem spec_l01Asked.mono : ∀ a0 a1 k, LeO (spec_l01Asked.f k a0 a1) (spec_l01Asked.f (k + 1) a0 a1) := by
  intro a0 a1 k
  unfold spec_l01Asked.f
  repeat' first
      | (with_reducible exact spec_l01Values.mono _ _)
      | (with_reducible exact LeO.refl _)
      | (with_reducible exact LeO.none _)
      | (with_reducible refine LeO.ite ?_ ?_)
      | (with_reducible refine LeO.bind ?_ (fun _ => ?_))
      | exact spec_l01Values.mono _ _
      | exact LeO.none _
      | refine LeO.ite ?_ ?_
      | refine LeO.bind ?_ (fun _ => ?_)
set_option maxHeartbeats 8000000 in
set_option maxRecDepth 100000 in
theorem spec_l01Asked.calls (k : Nat) (A0 : Option Addr) (c0 : Nat) (l0 : List Int) (a1 : Bool) (r : Int) (w : World) (hr0 : Kd.C (Kd.int .i64) w A0 l0.length l0) (hc0 : l0.length ≤ c0) (h : spec_l01Asked.f k l0 a1 = some r) :
    Calls Try.prog 48 #[.slice A0 l0.length c0, .bool a1] w fun e w' => e = .returned (.int .i64 r) ∧ Drawn0 w w' := by
  have HR0 := Aside0.mk hr0
  have HC0 := Aside0.mk hc0
  clear hr0 hc0
  have H : ((spec_l01Values.f k l0).bind fun t145 => (if t145 = true then (if a1 = true then (some 0) else (some 2)) else (some 1))) = some r := h
  clear h
  replace H := Option.bind_eq_some_iff.mp H
  obtain ⟨t145, A30, H⟩ := H
  replace H : (if t145 = true then (if a1 = true then (some 0) else (some 2)) else (some 1)) = some r := H
  have A3 := Aside0.mk A30
  clear A30
  by_cases c4 : t145 = true
  · subst c4
    have H1 : (if a1 = true then (some 0) else (some 2)) = some r := by rw [if_pos rfl] at H; exact H
    clear H
    have H := H1
    clear H1
    by_cases c5 : a1 = true
    · subst c5
      have H1 : (some 0) = some r := by rw [if_pos rfl] at H; exact H
      clear H
      have H := H1
      clear H1
      obtain rfl := Option.some.inj H
      go_enter Try.func48, Try.ntmps48
      go_wp2_with (first | ((with_reducible refine gate_callee (f := 44) rfl ?_); refine goesL_ (some 6) rfl rfl Try.func44 (by kernel_rfl) rfl #[.slice A0 l0.length c0] rfl (by (try simp only [List.map_toArray, List.map_cons, List.map_nil]); first | done | rfl | (simp only [List.length_drop, List.length_take]; rfl)) ?_; (with_reducible refine (spec_l01Values.calls k _ _ l0 true _ ?side1 ?side2 A3.out).mono ?_); (case side1 => repeat (first | exact HR0.out | (with_reducible refine Kd.C_alloc ?_ _) | (with_reducible refine Kd.C_drewN ?_ _) | (with_reducible refine Kd.C_drew ?_))); (case side2 => exact HC0.out); rintro e w' ⟨rfl, ⟨nd, rfl⟩⟩; refine ⟨_, rfl, ?_⟩))
      go_ret
      exact ⟨by first | rfl | (simp; done) | (simp [*]; done), by repeat (first | exact Drawn0.refl _ | apply Drawn0.step)⟩
    · replace c5 := Bool.eq_false_iff.mpr c5
      subst c5
      have H1 : (some 2) = some r := by rw [if_neg (show ¬ (false = true) by decide)] at H; exact H
      clear H
      have H := H1
      clear H1
      obtain rfl := Option.some.inj H
      go_enter Try.func48, Try.ntmps48
      go_wp2_with (first | ((with_reducible refine gate_callee (f := 44) rfl ?_); refine goesL_ (some 6) rfl rfl Try.func44 (by kernel_rfl) rfl #[.slice A0 l0.length c0] rfl (by (try simp only [List.map_toArray, List.map_cons, List.map_nil]); first | done | rfl | (simp only [List.length_drop, List.length_take]; rfl)) ?_; (with_reducible refine (spec_l01Values.calls k _ _ l0 true _ ?side1 ?side2 A3.out).mono ?_); (case side1 => repeat (first | exact HR0.out | (with_reducible refine Kd.C_alloc ?_ _) | (with_reducible refine Kd.C_drewN ?_ _) | (with_reducible refine Kd.C_drew ?_))); (case side2 => exact HC0.out); rintro e w' ⟨rfl, ⟨nd, rfl⟩⟩; refine ⟨_, rfl, ?_⟩))
      go_ret
      exact ⟨by first | rfl | (simp; done) | (simp [*]; done), by repeat (first | exact Drawn0.refl _ | apply Drawn0.step)⟩
  · replace c4 := Bool.eq_false_iff.mpr c4
    subst c4
    have H1 : (some 1) = some r := by rw [if_neg (show ¬ (false = true) by decide)] at H; exact H
    clear H
    have H := H1
    clear H1
    obtain rfl := Option.some.inj H
    go_enter Try.func48, Try.ntmps48
    go_wp2_with (first | ((with_reducible refine gate_callee (f := 44) rfl ?_); refine goesL_ (some 6) rfl rfl Try.func44 (by kernel_rfl) rfl #[.slice A0 l0.length c0] rfl (by (try simp only [List.map_toArray, List.map_cons, List.map_nil]); first | done | rfl | (simp only [List.length_drop, List.length_take]; rfl)) ?_; (with_reducible refine (spec_l01Values.calls k _ _ l0 false _ ?side1 ?side2 A3.out).mono ?_); (case side1 => repeat (first | exact HR0.out | (with_reducible refine Kd.C_alloc ?_ _) | (with_reducible refine Kd.C_drewN ?_ _) | (with_reducible refine Kd.C_drew ?_))); (case side2 => exact HC0.out); rintro e w' ⟨rfl, ⟨nd, rfl⟩⟩; refine ⟨_, rfl, ?_⟩))
    go_ret
    exact ⟨by first | rfl | (simp; done) | (simp [*]; done), by repeat (first | exact Drawn0.refl _ | apply Drawn0.step)⟩

end Go.Proofs.Ytaonlhjblocfkaa.P

namespace Go.Proofs.Ytaonlhjblocfkaa.P
open Go.RowKit Go.Proofs.YtaonlhjblocfkaaW.PrintWords Go.Proofs.YtaonlhjblocfkaaW.PrintLast Go.Proofs.YtaonlhjblocfkaaW.PrintMore
attribute [local go_sem] max2_int min2_int max_two min_two max_three min_three max_four min_four   -- for this text's walks alone
set_option linter.unusedVariables false
set_option linter.unusedSimpArgs false

/-! ### spec_l01Postage: function 49 -/
def spec_l01Postage.f (a0 : Int) : Option (Bool) := (spec_l00In.f a0 0 1000).bind fun t146 => (some t146)
set_option maxHeartbeats 8000000 in
set_option maxRecDepth 100000 in
theorem spec_l01Postage.calls (a0 : Int) (r : Bool) (w : World) (h : spec_l01Postage.f a0 = some r) :
    Calls Try.prog 49 #[.int .i64 a0] w fun e w' => e = .returned (.bool r) ∧ Drawn0 w w' := by
  have H : ((spec_l00In.f a0 0 1000).bind fun t146 => (some t146)) = some r := h
  clear h
  replace H := Option.bind_eq_some_iff.mp H
  obtain ⟨t146, A20, H⟩ := H
  replace H : (some t146) = some r := H
  have A2 := Aside0.mk A20
  clear A20
  obtain rfl := Option.some.inj H
  go_enter Try.func49, Try.ntmps49
  go_wp2_with (first | ((with_reducible refine gate_callee (f := 41) rfl ?_); refine goesL_ (some 4) rfl rfl Try.func41 (by kernel_rfl) rfl #[.int .i64 a0, .int .i64 0, .int .i64 1000] rfl (by (try simp only [List.map_toArray, List.map_cons, List.map_nil]); first | done | rfl | (simp only [List.length_drop, List.length_take]; rfl)) ?_; (with_reducible refine (spec_l00In.calls a0 0 1000 t146 _ A2.out).mono ?_); rintro e w' ⟨rfl, ⟨nd, rfl⟩⟩; refine ⟨_, rfl, ?_⟩))
  go_ret
  exact ⟨by first | rfl | (simp; done) | (simp [*]; done), by repeat (first | exact Drawn0.refl _ | apply Drawn0.step)⟩

end Go.Proofs.Ytaonlhjblocfkaa.P

namespace Go.Proofs.Ytaonlhjblocfkaa.Pure
open Go.RowKit Go.Proofs.Ytaonlhjblocfkaa.P Go.Proofs.YtaonlhjblocfkaaW.PrintWords Go.Proofs.YtaonlhjblocfkaaW.PrintLast
set_option linter.unusedVariables false
set_option linter.unusedSimpArgs false

theorem inF (a lo hi : Int) : spec_l00In.f a lo hi = some (decide (lo ≤ a) && decide (a ≤ hi)) := by
  unfold spec_l00In.f; by_cases h : lo ≤ a <;> simp [h]
theorem withinF (a lo hi : Int) : impl_within.f a lo hi = some (decide (lo ≤ a) && decide (a ≤ hi)) := by
  unfold impl_within.f; by_cases h : lo ≤ a <;> simp [h]

/-- Values are valid: one to eight, rising, each from 1 to 500. -/
def VV (l : List Int) : Prop :=
  1 ≤ l.length ∧ l.length ≤ 8 ∧ (∀ j, j < l.length → 1 ≤ l.getD j 0 ∧ l.getD j 0 ≤ 500) ∧ (∀ j, 0 < j → j < l.length → l.getD (j - 1) 0 < l.getD j 0)

theorem specVV_l0 (l : List Int) (hb : l.length ≤ 17592186044415) : ∀ d i, l.length - i = d → i ≤ l.length →
    ∃ r, Ev (fun k => spec_l01Values.l0 k l (i : Int)) r ∧ (r = true ↔ (∀ j, i ≤ j → j < l.length → (1 ≤ l.getD j 0 ∧ l.getD j 0 ≤ 500) ∧ (0 < j → l.getD (j - 1) 0 < l.getD j 0)) ∧ 1 ≤ l.length ∧ l.length ≤ 8) := by
  intro d
  induction d with
  | zero =>
    intro i hd hi
    refine ⟨decide (1 ≤ l.length) && decide (l.length ≤ 8), Ev.step (f := fun _ => some (decide (1 ≤ l.length) && decide (l.length ≤ 8))) (fun k => ?_) (Ev.now _), ?_⟩
    · rw [spec_l01Values.l0, if_neg (by omega), inF, Option.bind_some]
      congr 2 <;> (rw [decide_eq_decide]; omega)
    · simp only [Bool.and_eq_true, decide_eq_true_eq]
      exact ⟨fun h => ⟨fun j h1 h2 => by omega, h⟩, fun h => h.2⟩
  | succ d ih =>
    intro i hd hi
    have hlt : i < l.length := by omega
    by_cases hin : 1 ≤ l.getD i 0 ∧ l.getD i 0 ≤ 500
    · have e1 : (decide (1 ≤ l.getD i 0) && decide (l.getD i 0 ≤ 500)) = true := by simp only [hin.1, hin.2, decide_true, Bool.and_self]
      rcases Nat.eq_zero_or_pos i with h0 | h0
      · subst h0
        obtain ⟨r, hr, hi'⟩ := ih 1 (by omega) (by omega)
        refine ⟨r, Ev.step (fun k => ?_) hr, ?_⟩
        · rw [spec_l01Values.l0, if_pos (by omega), if_pos (by omega), rdN, inF, Option.bind_some, if_pos e1, if_neg (by omega), wN 0 (by omega)]
        · rw [hi']
          refine ⟨fun h => ⟨fun j h1 h2 => ?_, h.2⟩, fun h => ⟨fun j h1 h2 => h.1 j (by omega) h2, h.2⟩⟩
          rcases Nat.eq_zero_or_pos j with e | e
          · subst e; exact ⟨hin, fun h => absurd h (Nat.lt_irrefl 0)⟩
          · exact h.1 j e h2
      · have e2 : wrap64 ((i : Int) - 1) = ((i - 1 : Nat) : Int) := by rw [w64 (by omega) (by omega)]; omega
        by_cases hle : l.getD i 0 ≤ l.getD (i - 1) 0
        · refine ⟨false, Ev.step (f := fun _ => some false) (fun k => ?_) (Ev.now _), ?_⟩
          · rw [spec_l01Values.l0, if_pos (by omega), if_pos (by omega), rdN, inF, Option.bind_some, if_pos e1, if_pos (by omega), e2, if_pos (by omega), if_pos (by omega), rdN, if_pos hle]
          · simp only [Bool.false_eq_true, false_iff]
            intro h
            have := (h.1 i (Nat.le_refl _) hlt).2 h0
            omega
        · obtain ⟨r, hr, hi'⟩ := ih (i + 1) (by omega) (by omega)
          refine ⟨r, Ev.step (fun k => ?_) hr, ?_⟩
          · rw [spec_l01Values.l0, if_pos (by omega), if_pos (by omega), rdN, inF, Option.bind_some, if_pos e1, if_pos (by omega), e2, if_pos (by omega), if_pos (by omega), rdN, if_neg hle, wN i (by omega)]
          · rw [hi']
            refine ⟨fun h => ⟨fun j h1 h2 => ?_, h.2⟩, fun h => ⟨fun j h1 h2 => h.1 j (by omega) h2, h.2⟩⟩
            rcases Nat.eq_or_lt_of_le h1 with e | e
            · subst e; exact ⟨hin, fun _ => by omega⟩
            · exact h.1 j e h2
    · have e1 : ¬ ((decide (1 ≤ l.getD i 0) && decide (l.getD i 0 ≤ 500)) = true) := by simpa using hin
      refine ⟨false, Ev.step (f := fun _ => some false) (fun k => ?_) (Ev.now _), ?_⟩
      · rw [spec_l01Values.l0, if_pos (by omega), if_pos (by omega), rdN, inF, Option.bind_some, if_neg e1]
      · simp only [Bool.false_eq_true, false_iff]
        intro h
        exact hin (h.1 i (Nat.le_refl _) hlt).1

theorem specVV (l : List Int) (hb : l.length ≤ 17592186044415) : ∃ r, Ev (fun k => spec_l01Values.f k l) r ∧ (r = true ↔ VV l) := by
  obtain ⟨r, hr, hi⟩ := specVV_l0 l hb _ 0 rfl (Nat.zero_le _)
  refine ⟨r, hr, hi.trans ⟨fun h => ⟨h.2.1, h.2.2, fun j hj => (h.1 j (Nat.zero_le _) hj).1, fun j h0 hj => (h.1 j (Nat.zero_le _) hj).2 h0⟩, fun h => ⟨fun j _ hj => ⟨h.2.2.1 j hj, fun h0 => h.2.2.2 j h0 hj⟩, h.1, h.2.1⟩⟩⟩

theorem rising_l0 (l : List Int) (hb : l.length ≤ 17592186044415) : ∀ d i, l.length - i = d → 1 ≤ i →
    ∃ r, Ev (fun k => impl_isRising.l0 k l (i : Int)) r ∧ (r = true ↔ (∀ j, i ≤ j → j < l.length → l.getD (j - 1) 0 < l.getD j 0)) := by
  intro d
  induction d with
  | zero =>
    intro i hd h1
    refine ⟨true, Ev.step (f := fun _ => some true) (fun k => ?_) (Ev.now _), ?_⟩
    · rw [impl_isRising.l0, if_neg (by omega)]
    · exact ⟨fun _ j h1 h2 => by omega, fun _ => rfl⟩
  | succ d ih =>
    intro i hd h1
    have hlt : i < l.length := by omega
    have e2 : wrap64 ((i : Int) - 1) = ((i - 1 : Nat) : Int) := by rw [w64 (by omega) (by omega)]; omega
    by_cases hle : l.getD i 0 ≤ l.getD (i - 1) 0
    · refine ⟨false, Ev.step (f := fun _ => some false) (fun k => ?_) (Ev.now _), ?_⟩
      · rw [impl_isRising.l0, if_pos (by omega), if_pos (by omega), e2, if_pos (by omega), if_pos (by omega), rdN, rdN, if_pos hle]
      · simp only [Bool.false_eq_true, false_iff]
        intro h
        have := h i (Nat.le_refl _) hlt
        omega
    · obtain ⟨r, hr, hi'⟩ := ih (i + 1) (by omega) (by omega)
      refine ⟨r, Ev.step (fun k => ?_) hr, ?_⟩
      · rw [impl_isRising.l0, if_pos (by omega), if_pos (by omega), e2, if_pos (by omega), if_pos (by omega), rdN, rdN, if_neg hle, wN i (by omega)]
      · rw [hi']
        refine ⟨fun h j h1 h2 => ?_, fun h j h1 h2 => h j (by omega) h2⟩
        rcases Nat.eq_or_lt_of_le h1 with e | e
        · subst e; omega
        · exact h j e h2
/-- Whether numbers rise. -/
theorem risingI (l : List Int) (hb : l.length ≤ 17592186044415) : ∃ r, Ev (fun k => impl_isRising.f k l) r ∧ (r = true ↔ (∀ j, 0 < j → j < l.length → l.getD (j - 1) 0 < l.getD j 0)) :=
  rising_l0 l hb _ 1 rfl (Nat.le_refl _)

theorem all_getD (p : Int → Bool) (l : List Int) : l.all p = true ↔ ∀ j, j < l.length → p (l.getD j 0) = true := by
  rw [List.all_eq_true]
  constructor
  · exact fun h j hj => h _ (getD_mem l j hj)
  · intro h x hx
    obtain ⟨j, hj, e⟩ := List.getElem_of_mem hx
    have := h j hj
    rwa [getD_eq l j hj, e] at this

theorem implVV (l : List Int) (hb : l.length ≤ 17592186044415) : ∃ r, Ev (fun k => impl_ValidValues.f k l) r ∧ (r = true ↔ VV l) := by
  obtain ⟨r, hr, hi⟩ := risingI l hb
  obtain ⟨K, hr⟩ := EvG hr
  have hs : impl_size_int64.f l = some (l.length : Int) := rfl
  by_cases h1 : 1 ≤ l.length ∧ l.length ≤ 8
  · have e1 : (decide ((1 : Int) ≤ (l.length : Int)) && decide ((l.length : Int) ≤ 8)) = true := by
      simp only [Bool.and_eq_true, decide_eq_true_eq]; omega
    by_cases h2 : (l.all fun x => decide (1 ≤ x) && decide (x ≤ 500)) = true
    · refine ⟨r, EvI K fun k hk => ?_, ?_⟩
      · rw [impl_ValidValues.f, hs, Option.bind_some, withinF, Option.bind_some, if_pos e1, impl_areWithin.f, Option.bind_some, if_pos h2, hr k hk]; rfl
      · rw [hi]
        rw [all_getD] at h2
        refine ⟨fun h => ⟨h1.1, h1.2, fun j hj => by simpa using h2 j hj, h⟩, fun h => h.2.2.2⟩
    · refine ⟨false, EvI 0 fun k hk => ?_, ?_⟩
      · rw [impl_ValidValues.f, hs, Option.bind_some, withinF, Option.bind_some, if_pos e1, impl_areWithin.f, Option.bind_some, if_neg h2]
      · simp only [Bool.false_eq_true, false_iff]
        intro h
        rw [all_getD] at h2
        exact h2 fun j hj => by simpa using h.2.2.1 j hj
  · have e1 : ¬ ((decide ((1 : Int) ≤ (l.length : Int)) && decide ((l.length : Int) ≤ 8)) = true) := by
      simp only [Bool.and_eq_true, decide_eq_true_eq]; omega
    refine ⟨false, EvI 0 fun k hk => ?_, ?_⟩
    · rw [impl_ValidValues.f, hs, Option.bind_some, withinF, Option.bind_some, if_neg e1]
    · simp only [Bool.false_eq_true, false_iff]
      exact fun h => h1 ⟨h.1, h.2.1⟩

/-- Both say the same of values. -/
theorem bothVV (l : List Int) (hb : l.length ≤ 17592186044415) : ∃ r, Ev (fun k => spec_l01Values.f k l) r ∧ Ev (fun k => impl_ValidValues.f k l) r ∧ (r = true ↔ VV l) := by
  obtain ⟨r, h1, h2⟩ := specVV l hb
  obtain ⟨r', h1', h2'⟩ := implVV l hb
  obtain rfl : r = r' := by rw [Bool.eq_iff_iff, h2, h2']
  exact ⟨r, h1, h1', h2⟩

/-- Both give the same code to values and a number from 0 on: 0 just where all is well. -/
theorem bothCode (l : List Int) (n most : Int) (hb : l.length ≤ 17592186044415) : ∃ c, Ev (fun k => spec_l01Asked.f k l (decide (0 ≤ n) && decide (n ≤ most))) c ∧ Ev (fun k => impl_valuesCode.f k l n most) c ∧ (c = 0 ↔ VV l ∧ 0 ≤ n ∧ n ≤ most) := by
  obtain ⟨r, h1, h2, h3⟩ := bothVV l hb
  obtain ⟨K1, h1⟩ := EvG h1
  obtain ⟨K2, h2⟩ := EvG h2
  cases r with
  | false =>
    refine ⟨1, EvI K1 fun k hk => ?_, EvI K2 fun k hk => ?_, ?_⟩
    · rw [spec_l01Asked.f, h1 k hk]; rfl
    · rw [impl_valuesCode.f, h2 k hk]; rfl
    · constructor
      · intro h; cases h
      · intro h; exact absurd (h3.2 h.1) (by simp)
  | true =>
    have hv := h3.1 rfl
    by_cases hn : 0 ≤ n ∧ n ≤ most
    · have e : (decide (0 ≤ n) && decide (n ≤ most)) = true := by simp [hn.1, hn.2]
      refine ⟨0, EvI K1 fun k hk => ?_, EvI K2 fun k hk => ?_, ⟨fun _ => ⟨hv, hn.1, hn.2⟩, fun _ => rfl⟩⟩
      · rw [spec_l01Asked.f, h1 k hk, e]; rfl
      · rw [impl_valuesCode.f, h2 k hk, Option.bind_some, if_pos rfl, withinF, Option.bind_some, e]; rfl
    · have e : (decide (0 ≤ n) && decide (n ≤ most)) = false := by
        rw [Bool.eq_false_iff]; intro h; simp at h; exact hn h
      refine ⟨2, EvI K1 fun k hk => ?_, EvI K2 fun k hk => ?_, ?_⟩
      · rw [spec_l01Asked.f, h1 k hk, e]; rfl
      · rw [impl_valuesCode.f, h2 k hk, Option.bind_some, if_pos rfl, withinF, Option.bind_some, e]; rfl
      · constructor
        · intro h; cases h
        · intro h; exact absurd h.2 hn
theorem postageF (n : Int) : spec_l01Postage.f n = some (decide (0 ≤ n) && decide (n ≤ 1000)) := by
  rw [spec_l01Postage.f, inF]; rfl

end Go.Proofs.Ytaonlhjblocfkaa.Pure

namespace Go.Proofs.Ytaonlhjblocfkaa.Pure
open Go.RowKit Go.Proofs.Ytaonlhjblocfkaa.P Go.Proofs.YtaonlhjblocfkaaW.PrintWords Go.Proofs.YtaonlhjblocfkaaW.PrintLast
set_option linter.unusedVariables false
set_option linter.unusedSimpArgs false

/-- One value more is tried for the amount a: L tells the fewest stamps of lesser amounts. -/
def stp (L : List Int) (a : Nat) (b v : Int) : Int :=
  if v ≤ a ∧ 0 ≤ L.getD (a - v.toNat) 0 ∧ (b < 0 ∨ L.getD (a - v.toNat) 0 + 1 < b) then L.getD (a - v.toNat) 0 + 1 else b
/-- The fewest stamps for each amount up to n. -/
def fewL (vs : List Int) : Nat → List Int
  | 0 => [0]
  | n + 1 => fewL vs n ++ [vs.foldl (stp (fewL vs n) (n + 1)) (-1)]
theorem fewL_len (vs : List Int) (n : Nat) : (fewL vs n).length = n + 1 := by
  induction n with
  | zero => rfl
  | succ n ih => simp [fewL, ih]
def fw (vs : List Int) (a : Nat) : Int := (fewL vs a).getD a 0
theorem fewL_at (vs : List Int) (n j : Nat) (h : j ≤ n) : (fewL vs n).getD j 0 = fw vs j := by
  induction n with
  | zero => obtain rfl : j = 0 := by omega
            rfl
  | succ n ih =>
    rcases Nat.eq_or_lt_of_le h with e | e
    · subst e; rfl
    · rw [fewL, ← ih (by omega)]
      simp only [List.getD_eq_getElem?_getD]
      rw [List.getElem?_append_left (by rw [fewL_len]; omega)]
theorem fw_zero (vs : List Int) : fw vs 0 = 0 := rfl
theorem fw_succ (vs : List Int) (n : Nat) : fw vs (n + 1) = vs.foldl (stp (fewL vs n) (n + 1)) (-1) := by
  rw [fw, fewL]
  simp only [List.getD_eq_getElem?_getD]
  rw [List.getElem?_append_right (by rw [fewL_len]; omega), fewL_len]
  simp
theorem drop_step (l : List Int) (i : Nat) (h : i < l.length) : l.drop i = l.getD i 0 :: l.drop (i + 1) := by
  rw [List.drop_eq_getElem_cons h, getD_eq l i h]

/-- What holds of both choices, step by step. -/
theorem fold_ind (P : Int → Prop) (L : List Int) (a : Nat) (vs : List Int) (b : Int) (hb : P b) (hs : ∀ v, v ∈ vs → v ≤ a → 0 ≤ L.getD (a - v.toNat) 0 → P (L.getD (a - v.toNat) 0 + 1)) : P (vs.foldl (stp L a) b) := by
  induction vs generalizing b with
  | nil => exact hb
  | cons v vs ih =>
    rw [List.foldl_cons]
    refine ih _ ?_ (fun u hu => hs u (List.mem_cons_of_mem _ hu))
    unfold stp
    split
    · rename_i h; exact hs v List.mem_cons_self h.1 h.2.1
    · exact hb
theorem fold_keep (L : List Int) (a : Nat) (vs : List Int) (b : Int) (hb : 0 ≤ b) : 0 ≤ vs.foldl (stp L a) b ∧ vs.foldl (stp L a) b ≤ b := by
  induction vs generalizing b with
  | nil => exact ⟨hb, Int.le_refl b⟩
  | cons v vs ih =>
    rw [List.foldl_cons]
    have h1 : 0 ≤ stp L a b v ∧ stp L a b v ≤ b := by unfold stp; split <;> omega
    have h2 := ih (stp L a b v) h1.1
    omega
/-- Where some value serves, the fold finds one as good. -/
theorem fold_found (L : List Int) (a : Nat) (vs : List Int) (b v : Int) (hv : v ∈ vs) (h1 : v ≤ a) (h2 : 0 ≤ L.getD (a - v.toNat) 0) : 0 ≤ vs.foldl (stp L a) b ∧ vs.foldl (stp L a) b ≤ L.getD (a - v.toNat) 0 + 1 := by
  induction vs generalizing b with
  | nil => cases hv
  | cons u vs ih =>
    rw [List.foldl_cons]
    rcases List.mem_cons.1 hv with e | e
    · subst e
      have h3 : 0 ≤ stp L a b v ∧ stp L a b v ≤ L.getD (a - v.toNat) 0 + 1 := by unfold stp; split <;> omega
      have h4 := fold_keep L a vs _ h3.1
      omega
    · exact ih _ e

/-- Values of 1 to 500. -/
def InR (vs : List Int) : Prop := ∀ v, v ∈ vs → 1 ≤ v ∧ v ≤ 500
theorem VV.inR {l : List Int} (h : VV l) : InR l := by
  intro v hv
  obtain ⟨j, hj, e⟩ := List.getElem_of_mem hv
  have := h.2.2.1 j hj
  rwa [getD_eq l j hj, e] at this

theorem fw_lo (vs : List Int) (n : Nat) : -1 ≤ fw vs n := by
  cases n with
  | zero => rw [fw_zero]; omega
  | succ n => rw [fw_succ]; exact fold_ind (fun x => -1 ≤ x) _ _ _ _ (Int.le_refl _) (fun v _ _ h => by omega)
/-- No more stamps than the amount; each of at most 500. -/
theorem fw_bd (vs : List Int) (hvs : InR vs) (n : Nat) : fw vs n ≤ n ∧ (0 ≤ fw vs n → (n : Int) ≤ 500 * fw vs n) := by
  induction n using Nat.strongRecOn with
  | _ n ih =>
    cases n with
    | zero => rw [fw_zero]; omega
    | succ n =>
      rw [fw_succ]
      refine fold_ind (fun x => x ≤ ((n + 1 : Nat) : Int) ∧ (0 ≤ x → ((n + 1 : Nat) : Int) ≤ 500 * x)) _ _ _ _ ⟨by omega, fun h => absurd h (by omega)⟩ (fun v hv h1 h2 => ?_)
      obtain ⟨h3, h4⟩ := hvs v hv
      rw [fewL_at vs n _ (by omega)] at h2 ⊢
      have h5 := ih (n + 1 - v.toNat) (by omega)
      have h6 := h5.2 h2
      constructor
      · omega
      · intro _; omega
theorem fewL_bd (vs : List Int) (hvs : InR vs) (n j : Nat) : (fewL vs n).getD j 0 ≤ n := by
  rcases Nat.lt_or_ge n j with h | h
  · rw [List.getD_eq_getElem?_getD, List.getElem?_eq_none (by rw [fewL_len]; omega)]
    simp
  · rw [fewL_at vs n j h]
    have := (fw_bd vs hvs j).1
    omega

end Go.Proofs.Ytaonlhjblocfkaa.Pure

namespace Go.Proofs.Ytaonlhjblocfkaa.Pure
open Go.RowKit Go.Proofs.Ytaonlhjblocfkaa.P Go.Proofs.YtaonlhjblocfkaaW.PrintWords Go.Proofs.YtaonlhjblocfkaaW.PrintLast
set_option linter.unusedVariables false
set_option linter.unusedSimpArgs false

theorem sf_l1 (vs : List Int) (hvs : InR vs) (hn : vs.length ≤ 1000) (m n : Nat) (hm : m ≤ 900000) (hnm : n + 1 ≤ m) (r : List Int)
    (H : ∀ x : List Int, x.length = m + 1 → (∀ j, j ≤ n + 1 → x.getD j 0 = fw vs j) → Ev (fun k => spec_l01Fewest.l0 k vs (m : Int) x ((n + 2 : Nat) : Int)) r) :
    ∀ d i (b : Int) (x : List Int), vs.length - i = d → i ≤ vs.length → x.length = m + 1 → (∀ j, j ≤ n → x.getD j 0 = fw vs j) → x.getD (n + 1) 0 = b → (vs.drop i).foldl (stp (fewL vs n) (n + 1)) b = fw vs (n + 1) →
    Ev (fun k => spec_l01Fewest.l1 k vs (m : Int) x ((n + 1 : Nat) : Int) (i : Int)) r := by
  intro d
  induction d with
  | zero =>
    intro i b x hd hi hx hj hb hf
    rw [List.drop_eq_nil_of_le (by omega)] at hf
    refine Ev.step (fun k => ?_) (H x hx (fun j h => ?_))
    · rw [spec_l01Fewest.l1, if_neg (by omega), wN (n + 1) (by omega)]
    · rcases Nat.eq_or_lt_of_le h with e | e
      · rw [e, hb]; exact hf
      · exact hj j (by omega)
  | succ d ih =>
    intro i b x hd hi hx hj hb hf
    have hlt : i < vs.length := by omega
    rw [drop_step vs i hlt, List.foldl_cons] at hf
    obtain ⟨h1, h2⟩ := hvs _ (getD_mem vs i hlt)
    obtain ⟨v, hv⟩ : ∃ v : Nat, vs.getD i 0 = (v : Int) := ⟨(vs.getD i 0).toNat, by omega⟩
    rw [hv] at hf h1 h2
    have go : ∀ b' : Int, stp (fewL vs n) (n + 1) b (v : Int) = b' → Ev (fun k => spec_l01Fewest.l1 k vs (m : Int) (x.set (n + 1) b') ((n + 1 : Nat) : Int) ((i + 1 : Nat) : Int)) r := by
      intro b' hb'
      refine ih (i + 1) b' (x.set (n + 1) b') (by omega) (by omega) (by simpa using hx) (fun j h => ?_) ?_ (by rw [← hb']; exact hf)
      · rw [getD_set x (n + 1) j _ (by omega), if_neg (by omega)]; exact hj j h
      · rw [getD_set x (n + 1) (n + 1) _ (by omega), if_pos rfl]
    have same : stp (fewL vs n) (n + 1) b (v : Int) = b → Ev (fun k => spec_l01Fewest.l1 k vs (m : Int) x ((n + 1 : Nat) : Int) ((i + 1 : Nat) : Int)) r := by
      intro hb'
      exact ih (i + 1) b x (by omega) (by omega) hx hj hb (by rw [hb'] at hf; exact hf)
    by_cases hva : (v : Int) ≤ ((n + 1 : Nat) : Int)
    · have e : wrap64 (((n + 1 : Nat) : Int) - (v : Int)) = ((n + 1 - v : Nat) : Int) := by rw [w64 (by omega) (by omega)]; omega
      have hL : x.getD (n + 1 - v) 0 = (fewL vs n).getD (n + 1 - v) 0 := by rw [hj _ (by omega), fewL_at vs n _ (by omega)]
      have hbd := fewL_bd vs hvs n (n + 1 - v)
      by_cases h0 : (fewL vs n).getD (n + 1 - v) 0 ≥ 0
      · by_cases hb0 : b < 0
        · refine Ev.step (fun k => ?_) (go _ rfl)
          unfold stp
          rw [spec_l01Fewest.l1, if_pos (by omega), if_pos (by omega), rdN, hv, if_pos hva, e, if_pos (by omega), if_pos (by omega), rdN, hL, if_pos h0, if_pos (by omega), if_pos (by omega), rdN, hb, if_pos hb0, Int.toNat_natCast, Int.toNat_natCast, if_pos ⟨hva, h0, .inl hb0⟩, w64 (by omega) (by omega), wN i (by omega)]
        · by_cases hb1 : (fewL vs n).getD (n + 1 - v) 0 + 1 < b
          · refine Ev.step (fun k => ?_) (go _ rfl)
            unfold stp
            rw [spec_l01Fewest.l1, if_pos (by omega), if_pos (by omega), rdN, hv, if_pos hva, e, if_pos (by omega), if_pos (by omega), rdN, hL, if_pos h0, if_pos (by omega), if_pos (by omega), rdN, hb, if_neg hb0, w64 (by omega) (by omega), if_pos hb1, Int.toNat_natCast, Int.toNat_natCast, if_pos ⟨hva, h0, .inr hb1⟩, wN i (by omega)]
          · refine Ev.step (fun k => ?_) (same (by unfold stp; rw [Int.toNat_natCast, if_neg (fun h => by omega)]))
            rw [spec_l01Fewest.l1, if_pos (by omega), if_pos (by omega), rdN, hv, if_pos hva, e, if_pos (by omega), if_pos (by omega), rdN, hL, if_pos h0, if_pos (by omega), if_pos (by omega), rdN, hb, if_neg hb0, w64 (by omega) (by omega), if_neg hb1, wN i (by omega)]
      · refine Ev.step (fun k => ?_) (same (by unfold stp; rw [Int.toNat_natCast, if_neg (fun h => h0 h.2.1)]))
        rw [spec_l01Fewest.l1, if_pos (by omega), if_pos (by omega), rdN, hv, if_pos hva, e, if_pos (by omega), if_pos (by omega), rdN, hL, if_neg h0, wN i (by omega)]
    · refine Ev.step (fun k => ?_) (same (by unfold stp; rw [if_neg (fun h => hva h.1)]))
      rw [spec_l01Fewest.l1, if_pos (by omega), if_pos (by omega), rdN, hv, if_neg hva, wN i (by omega)]
theorem sf_l0 (vs : List Int) (hvs : InR vs) (hn : vs.length ≤ 1000) (m : Nat) (hm : m ≤ 900000) : ∀ d n (x : List Int), m - n = d → n ≤ m → x.length = m + 1 → (∀ j, j ≤ n → x.getD j 0 = fw vs j) →
    Ev (fun k => spec_l01Fewest.l0 k vs (m : Int) x ((n + 1 : Nat) : Int)) (fewL vs m) := by
  intro d
  induction d with
  | zero =>
    intro n x hd hnm hx hj
    obtain rfl : n = m := by omega
    have : x = fewL vs n := list_ext x _ (by rw [fewL_len]; exact hx) (fun j h => by rw [fewL_len] at h; rw [hj j (by omega), fewL_at vs n j (by omega)])
    rw [this]
    refine Ev.step (f := fun _ => some (fewL vs n)) (fun k => ?_) (Ev.now _)
    rw [spec_l01Fewest.l0, if_neg (by omega)]
  | succ d ih =>
    intro n x hd hnm hx hj
    refine Ev.step (fun k => ?_) (sf_l1 vs hvs hn m n hm (by omega) (fewL vs m) (fun x hx hj => ih (n + 1) x (by omega) (by omega) hx hj) _ 0 (-1) (x.set (n + 1) (-1)) rfl (Nat.zero_le _) (by simpa using hx) (fun j h => ?_) ?_ (fw_succ vs n).symm)
    · rw [spec_l01Fewest.l0, if_pos (by omega), if_pos (by omega), if_pos (by omega), Int.toNat_natCast]; rfl
    · rw [getD_set x (n + 1) j _ (by omega), if_neg (by omega)]; exact hj j h
    · rw [getD_set x (n + 1) (n + 1) _ (by omega), if_pos rfl]
theorem fewestF (vs : List Int) (hvs : InR vs) (hn : vs.length ≤ 1000) (m : Nat) (hm : m ≤ 900000) : Ev (fun k => spec_l01Fewest.f k vs (m : Int)) (fewL vs m) := by
  refine Ev.congr (fun k => ?_) (sf_l0 vs hvs hn m hm _ 0 (List.replicate (m + 1) 0) rfl (Nat.zero_le _) (by simp) (fun j h => ?_))
  · rw [spec_l01Fewest.f, wN m (by omega), if_pos (by omega), Int.toNat_natCast, if_pos (by omega)]; rfl
  · obtain rfl : j = 0 := by omega
    rw [getD_rep _ _ _ (by omega), fw_zero]

end Go.Proofs.Ytaonlhjblocfkaa.Pure

namespace Go.Proofs.Ytaonlhjblocfkaa.Pure
open Go.RowKit Go.Proofs.Ytaonlhjblocfkaa.P Go.Proofs.YtaonlhjblocfkaaW.PrintWords Go.Proofs.YtaonlhjblocfkaaW.PrintLast
set_option linter.unusedVariables false
set_option linter.unusedSimpArgs false

theorem lf_l0 (vs : List Int) (hvs : InR vs) (hn : vs.length ≤ 1000) (L : List Int) (a : Nat) (ha : a ≤ 1000000) (hL : a ≤ L.length) (hLb : ∀ j, L.getD j 0 ≤ 1000000) : ∀ d i b, vs.length - i = d → i ≤ vs.length →
    Ev (fun k => impl_leastFor.l0 k L (a : Int) b vs (vs.length : Int) (i : Int)) ((vs.drop i).foldl (stp L a) b) := by
  intro d
  induction d with
  | zero =>
    intro i b hd hi
    rw [List.drop_eq_nil_of_le (by omega)]
    refine Ev.step (f := fun _ => some b) (fun k => ?_) (Ev.now b)
    rw [impl_leastFor.l0, if_neg (by omega)]
  | succ d ih =>
    intro i b hd hi
    have hlt : i < vs.length := by omega
    rw [drop_step vs i hlt, List.foldl_cons]
    refine Ev.step (fun k => ?_) (ih (i + 1) (stp L a b (vs.getD i 0)) (by omega) (by omega))
    obtain ⟨h1, h2⟩ := hvs _ (getD_mem vs i hlt)
    obtain ⟨v, hv⟩ : ∃ v : Nat, vs.getD i 0 = (v : Int) := ⟨(vs.getD i 0).toNat, by omega⟩
    rw [impl_leastFor.l0, if_pos (by omega), if_pos (by omega), if_pos (by omega), rdN, hv, wN i (by omega)]
    unfold stp
    rw [Int.toNat_natCast]
    by_cases hva : (v : Int) ≤ a
    · have e : wrap64 ((a : Int) - (v : Int)) = ((a - v : Nat) : Int) := by rw [w64 (by omega) (by omega)]; omega
      rw [if_pos hva, e, if_pos (by omega), if_pos (by omega), rdN]
      have hb := hLb (a - v)
      by_cases h0 : L.getD (a - v) 0 ≥ 0
      · rw [if_pos h0, w64 (by omega) (by omega)]
        by_cases hb0 : b < 0
        · rw [if_pos hb0, if_pos ⟨hva, h0, .inl hb0⟩]
        · rw [if_neg hb0]
          by_cases hb1 : L.getD (a - v) 0 + 1 < b
          · rw [if_pos hb1, if_pos ⟨hva, h0, .inr hb1⟩]
          · rw [if_neg hb1, if_neg (fun h => by omega)]
      · rw [if_neg h0, if_neg (fun h => h0 h.2.1)]
    · rw [if_neg hva, if_neg (fun h => hva h.1)]
theorem lf (vs : List Int) (hvs : InR vs) (hn : vs.length ≤ 1000) (n : Nat) (ha : n ≤ 900000) : Ev (fun k => impl_leastFor.f k vs (fewL vs n) (((n + 1 : Nat)) : Int)) (fw vs (n + 1)) := by
  rw [fw_succ]
  exact lf_l0 vs hvs hn (fewL vs n) (n + 1) (by omega) (by rw [fewL_len]; omega) (fun j => by have := fewL_bd vs hvs n j; omega) _ 0 (-1) rfl (Nat.zero_le _)

end Go.Proofs.Ytaonlhjblocfkaa.Pure

namespace Go.Proofs.Ytaonlhjblocfkaa.Pure
open Go.RowKit Go.Proofs.Ytaonlhjblocfkaa.P Go.Proofs.YtaonlhjblocfkaaW.PrintWords Go.Proofs.YtaonlhjblocfkaaW.PrintLast
set_option linter.unusedVariables false
set_option linter.unusedSimpArgs false
theorem ls_l0 (vs : List Int) (hvs : InR vs) (hn : vs.length ≤ 1000) (m : Nat) (hm : m ≤ 900000) : ∀ d n, m - n = d → n ≤ m → Ev (fun k => impl_leastStamps.l0 k vs (m : Int) (fewL vs n) ((n + 1 : Nat) : Int)) (fewL vs m) := by
  intro d
  induction d with
  | zero =>
    intro n hd hnm
    obtain rfl : n = m := by omega
    refine Ev.step (f := fun _ => some (fewL vs n)) (fun k => ?_) (Ev.now _)
    rw [impl_leastStamps.l0, if_neg (by omega)]
  | succ d ih =>
    intro n hd hnm
    obtain ⟨K, hk⟩ := EvG (lf vs hvs hn n (by omega))
    obtain ⟨K2, hk2⟩ := EvG (ih (n + 1) (by omega) (by omega))
    refine EvI (K + K2 + 1) fun k hk3 => ?_
    obtain ⟨k, rfl⟩ : ∃ m, k = m + 1 := ⟨k - 1, by omega⟩
    rw [impl_leastStamps.l0, if_pos (by omega), hk k (by omega), Option.bind_some, if_pos (by rw [fewL_len]; omega), wN (n + 1) (by omega)]
    have e : fewL vs n ++ [fw vs (n + 1)] = fewL vs (n + 1) := by rw [fw_succ]; rfl
    rw [e]
    exact hk2 k (by omega)
theorem leastStampsF (vs : List Int) (hvs : InR vs) (hn : vs.length ≤ 1000) (m : Nat) (hm : m ≤ 900000) : Ev (fun k => impl_leastStamps.f k vs (m : Int)) (fewL vs m) :=
  ls_l0 vs hvs hn m hm _ 0 rfl (Nat.zero_le _)

end Go.Proofs.Ytaonlhjblocfkaa.Pure

namespace Go.Proofs.Ytaonlhjblocfkaa.Pure
open Go.RowKit Go.Proofs.Ytaonlhjblocfkaa.P Go.Proofs.YtaonlhjblocfkaaW.PrintWords Go.Proofs.YtaonlhjblocfkaaW.PrintLast
set_option linter.unusedVariables false
set_option linter.unusedSimpArgs false

theorem sum_set (l : List Int) (i : Nat) (v : Int) (h : i < l.length) : (l.set i v).sum = l.sum - l.getD i 0 + v := by
  induction l generalizing i with
  | nil => simp at h
  | cons x xs ih =>
    cases i with
    | zero => simp; omega
    | succ i =>
      have := ih i (by simpa using h)
      simp only [List.set_cons_succ, List.sum_cons, List.getD_cons_succ, this]
      omega
theorem sum_take (l : List Int) (i : Nat) (h : i < l.length) : (l.take (i + 1)).sum = (l.take i).sum + l.getD i 0 := by
  induction l generalizing i with
  | nil => simp at h
  | cons x xs ih =>
    cases i with
    | zero => simp
    | succ i =>
      have := ih i (by simpa using h)
      simp only [List.take_succ_cons, List.sum_cons, List.getD_cons_succ, this]
      omega
theorem sum_rep (n : Nat) : (List.replicate n (0 : Int)).sum = 0 := by
  induction n with
  | zero => rfl
  | succ n ih => rw [List.replicate_succ, List.sum_cons, ih]; rfl
theorem sum_l0 (l : List Int) (hn : l.length ≤ 1000) (hb : ∀ j, j < l.length → 0 ≤ l.getD j 0 ∧ l.getD j 0 ≤ 1000) : ∀ d i, l.length - i = d → i ≤ l.length → (0 ≤ (l.take i).sum ∧ (l.take i).sum ≤ 1000 * (i : Int)) →
    Ev (fun k => impl_sum.l0 k (l.take i).sum l (l.length : Int) (i : Int)) l.sum := by
  intro d
  induction d with
  | zero =>
    intro i hd hi hs
    obtain rfl : i = l.length := by omega
    refine Ev.step (f := fun _ => some l.sum) (fun k => ?_) (Ev.now _)
    rw [impl_sum.l0, if_neg (by omega), List.take_length]
  | succ d ih =>
    intro i hd hi hs
    have hx := hb i (by omega)
    have ht := sum_take l i (by omega)
    refine Ev.step (fun k => ?_) (ih (i + 1) (by omega) (by omega) (by rw [ht]; constructor <;> omega))
    rw [impl_sum.l0, if_pos (by omega), if_pos (by omega), if_pos (by omega), rdN, w64 (x := (l.take i).sum + l.getD i 0) (by omega) (by omega), wN i (by omega), ht]
theorem sumF (l : List Int) (hn : l.length ≤ 1000) (hb : ∀ j, j < l.length → 0 ≤ l.getD j 0 ∧ l.getD j 0 ≤ 1000) : Ev (fun k => impl_sum.f k l) l.sum :=
  sum_l0 l hn hb _ 0 rfl (Nat.zero_le _) (by simp)
/-- What is so when k rounds are over. -/
structure GI (l : List Int) (a : Int) (k : Nat) (s : List Int × Int) : Prop where
  len : s.1.length = l.length
  p0 : 0 ≤ s.2
  s0 : 0 ≤ s.1.sum
  le : s.2 + s.1.sum ≤ a
  zero : ∀ j, j < l.length - k → s.1.getD j 0 = 0
  ent : ∀ j, j < l.length → 0 ≤ s.1.getD j 0 ∧ s.1.getD j 0 ≤ a
theorem div_facts (p v : Int) (hp : 0 ≤ p) (hv : 1 ≤ v) : Int.tdiv p v = p / v ∧ Int.tmod p v = p % v ∧ 0 ≤ p / v ∧ p / v ≤ p ∧ 0 ≤ p % v ∧ p % v ≤ p ∧ (p / v) * v = p - p % v ∧ p % v + p / v ≤ p := by
  have h1 := Int.tdiv_eq_ediv_of_nonneg hp (b := v)
  have h2 := Int.tmod_eq_emod_of_nonneg hp (b := v)
  have h3 : 0 ≤ p / v := Int.ediv_nonneg hp (by omega)
  have h4 : 0 ≤ p % v := Int.emod_nonneg p (by omega)
  have h5 : v * (p / v) + p % v = p := Int.mul_ediv_add_emod p v
  have h6 : p / v ≤ v * (p / v) := by
    have := Int.mul_le_mul_of_nonneg_right hv h3
    omega
  have h7 : (p / v) * v = v * (p / v) := Int.mul_comm _ _
  refine ⟨h1, h2, h3, by omega, h4, by omega, by omega, by omega⟩
theorem gi_all (l : List Int) (hv : InR l) (a : Int) (h0 : 0 ≤ a) (h1 : a ≤ 1000) : ∀ k, k ≤ l.length → GI l a k (impl_greedy.run l a k)
  | 0, _ => ⟨by simp [impl_greedy.run], h0, by simp [impl_greedy.run, sum_rep], by simp [impl_greedy.run, sum_rep], fun j hj => getD_rep _ _ _ (by omega), fun j hj => by simp only [impl_greedy.run]; rw [getD_rep _ _ _ hj]; omega⟩
  | k + 1, hk => by
    have ih := gi_all l hv a h0 h1 k (by omega)
    have hvx := hv _ (getD_mem l (l.length - 1 - k) (by omega))
    obtain ⟨f1, f2, f3, f4, f5, f6, f7, f8⟩ := div_facts (impl_greedy.run l a k).2 (l.getD (l.length - 1 - k) 0) ih.p0 hvx.1
    have hz := ih.zero (l.length - 1 - k) (by omega)
    have hp := ih.p0
    have hs := ih.s0
    have hle := ih.le
    have hlen := ih.len
    have hw : wrap64 ((impl_greedy.run l a k).2 / l.getD (l.length - 1 - k) 0) = (impl_greedy.run l a k).2 / l.getD (l.length - 1 - k) 0 := w64 (by omega) (by omega)
    have hss := sum_set (impl_greedy.run l a k).1 (l.length - 1 - k) ((impl_greedy.run l a k).2 / l.getD (l.length - 1 - k) 0) (by omega)
    refine ⟨?_, ?_, ?_, ?_, fun j hj => ?_, fun j hj => ?_⟩ <;> simp only [impl_greedy.run, impl_greedy.step, f1, f2, hw]
    · rw [List.length_set]; exact hlen
    · exact f5
    · rw [hss]; omega
    · rw [hss]; omega
    · rw [getD_set _ _ _ _ (by omega), if_neg (by omega)]; exact ih.zero j (by omega)
    · rw [getD_set _ _ _ _ (by omega)]
      split
      · omega
      · exact ih.ent j hj
theorem sg_l0 (l : List Int) (hv : InR l) (hn : l.length ≤ 1000) (a : Int) (h0 : 0 ≤ a) (h1 : a ≤ 1000) : ∀ d k, l.length - k = d → k ≤ l.length →
    Ev (fun K => spec_l01Greedy.l0 K l (impl_greedy.run l a k).2 (impl_greedy.run l a k).1 (impl_greedy.run l a k).1.sum ((l.length : Int) - 1 - (k : Int))) ((impl_greedy.run l a l.length).1, (impl_greedy.run l a l.length).1.sum, (impl_greedy.run l a l.length).2) := by
  intro d
  induction d with
  | zero =>
    intro k hd hk
    obtain rfl : k = l.length := by omega
    refine Ev.step (f := fun _ => some _) (fun K => ?_) (Ev.now _)
    rw [spec_l01Greedy.l0, if_neg (by omega)]
  | succ d ih =>
    intro k hd hk
    have g := gi_all l hv a h0 h1 k (by omega)
    have hvx := hv _ (getD_mem l (l.length - 1 - k) (by omega))
    obtain ⟨f1, f2, f3, f4, f5, f6, f7, f8⟩ := div_facts (impl_greedy.run l a k).2 (l.getD (l.length - 1 - k) 0) g.p0 hvx.1
    have hz := g.zero (l.length - 1 - k) (by omega)
    have hp := g.p0
    have hs := g.s0
    have hle := g.le
    have hlen := g.len
    have hi : (l.length : Int) - 1 - (k : Int) = ((l.length - 1 - k : Nat) : Int) := by omega
    have hw : wrap64 ((impl_greedy.run l a k).2 / l.getD (l.length - 1 - k) 0) = (impl_greedy.run l a k).2 / l.getD (l.length - 1 - k) 0 := w64 (by omega) (by omega)
    have hss := sum_set (impl_greedy.run l a k).1 (l.length - 1 - k) ((impl_greedy.run l a k).2 / l.getD (l.length - 1 - k) 0) (by omega)
    refine Ev.step (fun K => ?_) (ih (k + 1) (by omega) (by omega))
    rw [hi, spec_l01Greedy.l0, if_pos (by omega), if_pos (by omega), if_pos (by omega), rdN, if_neg (by omega), if_pos (by omega), Option.bind_some, Int.toNat_natCast, rdN, getD_set _ _ _ _ (by omega), if_pos rfl, f1, hw,
      f7, w64 (x := (impl_greedy.run l a k).2 - (impl_greedy.run l a k).2 % l.getD (l.length - 1 - k) 0) (by omega) (by omega),
      w64 (x := (impl_greedy.run l a k).2 - ((impl_greedy.run l a k).2 - (impl_greedy.run l a k).2 % l.getD (l.length - 1 - k) 0)) (by omega) (by omega),
      w64 (x := (impl_greedy.run l a k).1.sum + (impl_greedy.run l a k).2 / l.getD (l.length - 1 - k) 0) (by omega) (by omega), w64 (x := ((l.length - 1 - k : Nat) : Int) - 1) (by omega) (by omega)]
    have e1 : impl_greedy.run l a (k + 1) = ((impl_greedy.run l a k).1.set (l.length - 1 - k) ((impl_greedy.run l a k).2 / l.getD (l.length - 1 - k) 0), (impl_greedy.run l a k).2 % l.getD (l.length - 1 - k) 0) := by
      simp only [impl_greedy.run, impl_greedy.step, f1, f2, hw]
    rw [e1]
    simp only [hss, hz]
    rw [show ((l.length - 1 - k : Nat) : Int) - 1 = (l.length : Int) - 1 - ((k + 1 : Nat) : Int) by omega, show (impl_greedy.run l a k).2 - ((impl_greedy.run l a k).2 - (impl_greedy.run l a k).2 % l.getD (l.length - 1 - k) 0) = (impl_greedy.run l a k).2 % l.getD (l.length - 1 - k) 0 by omega,
      show (impl_greedy.run l a k).1.sum - 0 + (impl_greedy.run l a k).2 / l.getD (l.length - 1 - k) 0 = (impl_greedy.run l a k).1.sum + (impl_greedy.run l a k).2 / l.getD (l.length - 1 - k) 0 by omega]
/-- Both sides pay alike. -/
theorem greedyBoth (l : List Int) (hv : InR l) (hn : l.length ≤ 1000) (a : Int) (h0 : 0 ≤ a) (h1 : a ≤ 1000) : ∃ c s p, Ev (fun k => spec_l01Greedy.f k l a) (c, s, p) ∧ impl_greedy.f l a = some (c, decide (p = 0)) ∧ Ev (fun k => impl_sum.f k c) s ∧ 0 ≤ p ∧ 0 ≤ s ∧ p + s ≤ a ∧ c.length = l.length := by
  have g := gi_all l hv a h0 h1 l.length (Nat.le_refl _)
  refine ⟨_, _, _, Ev.congr (fun k => ?_) (sg_l0 l hv hn a h0 h1 _ 0 rfl (Nat.zero_le _)), ?_, sumF _ (by rw [g.len]; exact hn) (fun j hj => by have := g.ent j (by rw [← g.len]; exact hj); omega), g.p0, g.s0, g.le, g.len⟩
  · rw [spec_l01Greedy.f, if_pos (by omega), if_pos (by omega), Int.toNat_natCast, w64 (x := (l.length : Int) - 1) (by omega) (by omega)]
    simp only [impl_greedy.run, sum_rep]
    rw [show (l.length : Int) - 1 - ((0 : Nat) : Int) = (l.length : Int) - 1 by omega]
  · rw [impl_greedy.f, if_pos ⟨fun v hv' => by have := hv v hv'; omega, by omega⟩]

end Go.Proofs.Ytaonlhjblocfkaa.Pure

namespace Go.Proofs.Ytaonlhjblocfkaa.Pure
open Go.RowKit Go.Proofs.Ytaonlhjblocfkaa.P Go.Proofs.YtaonlhjblocfkaaW.PrintWords Go.Proofs.YtaonlhjblocfkaaW.PrintLast
set_option linter.unusedVariables false
set_option linter.unusedSimpArgs false

theorem fwg_l0 (l : List Int) (hv : InR l) (hn : l.length ≤ 1000) : ∀ (d i : Nat), 1001 - i = d → 1 ≤ i → i ≤ 1001 →
    ∃ r, Ev (fun k => spec_FirstWrongGreedy.l0 k l (fewL l 1000) (i : Int)) r ∧ Ev (fun k => impl_FirstWrongGreedy.l0 k l (fewL l 1000) ((fewL l 1000).length : Int) (i : Int)) r := by
  have hlen := fewL_len l 1000
  intro d
  induction d with
  | zero =>
    intro i hd h1 hi
    obtain rfl : i = 1001 := by omega
    refine ⟨(0, 6), Ev.step (f := fun _ => some (0, 6)) (fun k => ?_) (Ev.now _), Ev.step (f := fun _ => some (0, 6)) (fun k => ?_) (Ev.now _)⟩
    · rw [spec_FirstWrongGreedy.l0, if_neg (by omega)]
    · rw [impl_FirstWrongGreedy.l0, if_neg (by omega)]
  | succ d ih =>
    intro i hd h1 hi
    obtain ⟨r, g1, g2⟩ := ih (i + 1) (by omega) (by omega) (by omega)
    obtain ⟨c, s, p, h4, h5, h6, hp, hs, hle, hcl⟩ := greedyBoth l hv hn (i : Int) (by omega) (by omega)
    obtain ⟨K4, h4⟩ := EvG h4
    obtain ⟨K6, h6⟩ := EvG h6
    obtain ⟨G1, g1⟩ := EvG g1
    obtain ⟨G2, g2⟩ := EvG g2
    have e1 : ∀ k, K4 ≤ k → spec_FirstWrongGreedy.l0 (k + 1) l (fewL l 1000) (i : Int) = (if (fewL l 1000).getD i 0 ≥ 0 then (if p > 0 then some ((i : Int), 0) else (if s > (fewL l 1000).getD i 0 then some ((i : Int), 0) else spec_FirstWrongGreedy.l0 k l (fewL l 1000) ((i + 1 : Nat) : Int))) else spec_FirstWrongGreedy.l0 k l (fewL l 1000) ((i + 1 : Nat) : Int)) := fun k hk => by
      rw [spec_FirstWrongGreedy.l0, if_pos (by omega), h4 k hk, Option.bind_some, if_pos (by omega), if_pos (by omega), rdN, wN i (by omega)]
    have e2 : ∀ k, K6 ≤ k → impl_FirstWrongGreedy.l0 (k + 1) l (fewL l 1000) ((fewL l 1000).length : Int) (i : Int) = (if (fewL l 1000).getD i 0 < 0 then impl_FirstWrongGreedy.l0 k l (fewL l 1000) ((fewL l 1000).length : Int) ((i + 1 : Nat) : Int) else (if decide (p = 0) = true then (if s > (fewL l 1000).getD i 0 then some ((i : Int), 0) else impl_FirstWrongGreedy.l0 k l (fewL l 1000) ((fewL l 1000).length : Int) ((i + 1 : Nat) : Int)) else some ((i : Int), 0))) := fun k hk => by
      rw [impl_FirstWrongGreedy.l0, if_pos (by omega), if_pos (by omega), if_pos (by omega), rdN, wN i (by omega), h5, Option.bind_some, h6 k hk, Option.bind_some]
    by_cases c1 : (fewL l 1000).getD i 0 < 0
    · refine ⟨r, EvI (G1 + K4 + 1) fun k hk => ?_, EvI (G2 + K6 + 1) fun k hk => ?_⟩
      · obtain ⟨k, rfl⟩ : ∃ m, k = m + 1 := ⟨k - 1, by omega⟩
        rw [e1 k (by omega), if_neg (by omega)]; exact g1 k (by omega)
      · obtain ⟨k, rfl⟩ : ∃ m, k = m + 1 := ⟨k - 1, by omega⟩
        rw [e2 k (by omega), if_pos c1]; exact g2 k (by omega)
    · by_cases c2 : p = 0
      · by_cases c3 : s > (fewL l 1000).getD i 0
        · refine ⟨((i : Int), 0), EvI (K4 + 1) fun k hk => ?_, EvI (K6 + 1) fun k hk => ?_⟩
          · obtain ⟨k, rfl⟩ : ∃ m, k = m + 1 := ⟨k - 1, by omega⟩
            rw [e1 k (by omega), if_pos (by omega), if_neg (by omega), if_pos c3]
          · obtain ⟨k, rfl⟩ : ∃ m, k = m + 1 := ⟨k - 1, by omega⟩
            rw [e2 k (by omega), if_neg c1, if_pos (decide_eq_true c2), if_pos c3]
        · refine ⟨r, EvI (G1 + K4 + 1) fun k hk => ?_, EvI (G2 + K6 + 1) fun k hk => ?_⟩
          · obtain ⟨k, rfl⟩ : ∃ m, k = m + 1 := ⟨k - 1, by omega⟩
            rw [e1 k (by omega), if_pos (by omega), if_neg (by omega), if_neg c3]; exact g1 k (by omega)
          · obtain ⟨k, rfl⟩ : ∃ m, k = m + 1 := ⟨k - 1, by omega⟩
            rw [e2 k (by omega), if_neg c1, if_pos (decide_eq_true c2), if_neg c3]; exact g2 k (by omega)
      · refine ⟨((i : Int), 0), EvI (K4 + 1) fun k hk => ?_, EvI (K6 + 1) fun k hk => ?_⟩
        · obtain ⟨k, rfl⟩ : ∃ m, k = m + 1 := ⟨k - 1, by omega⟩
          rw [e1 k (by omega), if_pos (by omega), if_pos (by omega)]
        · obtain ⟨k, rfl⟩ : ∃ m, k = m + 1 := ⟨k - 1, by omega⟩
          rw [e2 k (by omega), if_neg c1, if_neg (by simp only [decide_eq_true_eq]; exact c2)]
theorem both_fwg (l : List Int) (hb : l.length ≤ 17592186044415) : ∃ r, Ev (fun k => spec_FirstWrongGreedy.f k l) r ∧ Ev (fun k => impl_FirstWrongGreedy.f k l) r := by
  obtain ⟨b, h1, h2, h3⟩ := bothVV l hb
  obtain ⟨K1, h1⟩ := EvG h1
  obtain ⟨K2, h2⟩ := EvG h2
  cases b with
  | false =>
    refine ⟨(0, 1), EvI K1 fun k hk => ?_, EvI K2 fun k hk => ?_⟩
    · rw [spec_FirstWrongGreedy.f, h1 k hk, Option.bind_some, if_neg (by simp)]
    · rw [impl_FirstWrongGreedy.f, h2 k hk, Option.bind_some, if_neg (by simp)]
  | true =>
    have hv := (h3.1 rfl)
    have hn : l.length ≤ 1000 := by have := hv.2.1; omega
    obtain ⟨r, g1, g2⟩ := fwg_l0 l hv.inR hn _ 1 rfl (Nat.le_refl _) (by omega)
    obtain ⟨G1, g1⟩ := EvG g1
    obtain ⟨G2, g2⟩ := EvG g2
    obtain ⟨K3, h3'⟩ := EvG (fewestF l hv.inR hn 1000 (by omega))
    obtain ⟨K4, h4⟩ := EvG (leastStampsF l hv.inR hn 1000 (by omega))
    obtain ⟨c, s, p, _, h5, h6, hp, hs, hle, _⟩ := greedyBoth l hv.inR hn 0 (by omega) (by omega)
    obtain ⟨K6, h6⟩ := EvG h6
    have hlen := fewL_len l 1000
    have hz : (fewL l 1000).getD 0 0 = 0 := by rw [fewL_at l 1000 0 (by omega), fw_zero]
    refine ⟨r, EvI (K1 + K3 + G1) fun k hk => ?_, EvI (K2 + K4 + K6 + G2 + 1) fun k hk => ?_⟩
    · rw [spec_FirstWrongGreedy.f, h1 k (by omega), Option.bind_some, if_pos rfl, show (1000 : Int) = ((1000 : Nat) : Int) from rfl, h3' k (by omega), Option.bind_some]; exact g1 k (by omega)
    · obtain ⟨k, rfl⟩ : ∃ m, k = m + 1 := ⟨k - 1, by omega⟩
      rw [impl_FirstWrongGreedy.f, h2 _ (by omega), Option.bind_some, if_pos rfl, show (1000 : Int) = ((1000 : Nat) : Int) from rfl, h4 _ (by omega), Option.bind_some,
        impl_FirstWrongGreedy.l0, if_pos (by omega), if_pos (by omega), if_pos (by omega), show rd (fewL l 1000) 0 = (fewL l 1000).getD 0 0 from rfl, hz, if_neg (by omega), h5, Option.bind_some, if_pos (decide_eq_true (by omega)), h6 k (by omega), Option.bind_some, if_neg (by omega), show wrap64 ((0 : Int) + 1) = ((1 : Nat) : Int) from by rw [w64 (by omega) (by omega)]; rfl]
      exact g2 k (by omega)

theorem FnExactFirstWrongGreedy : laws_FnExactFirstWrongGreedy.Pure := by
  intro l _ _ _
  by_cases hl : (l.length : Int) > 1048576
  · exact ⟨0, by rw [laws_FnExactFirstWrongGreedy.f, if_pos hl]⟩
  · obtain ⟨r, h1, h2⟩ := both_fwg l (by omega)
    obtain ⟨K1, h1⟩ := EvG h1
    obtain ⟨K2, h2⟩ := EvG h2
    obtain ⟨K3, h3⟩ := EvG (toI l (by omega))
    obtain ⟨K4, h4⟩ := EvG (eqI l (by omega))
    refine ⟨K1 + K2 + K3 + K4 + 1, ?_⟩
    rw [laws_FnExactFirstWrongGreedy.f, if_neg hl, h3 _ (by omega), Option.bind_some, h1 _ (by omega), Option.bind_some, Option.bind_some, h2 _ (by omega), Option.bind_some, if_pos rfl, bne_self_eq_false,
      laws_FnExactFirstWrongGreedy.j0, if_neg (by simp), h3 _ (by omega), Option.bind_some, h4 _ (by omega), Option.bind_some, if_pos rfl]

end Go.Proofs.Ytaonlhjblocfkaa.Pure
