/- Each Go function that the laws of this seat come to, as a plain Lean function, and the proof that a call of it returns what that function tells; no condition but those that each theorem states. Written by a program of this session over the kit's print. -/
import Derived.Test.YtipdmnibjkdpcaaP0
import Derived.Test.YtipdmnibjkdpcaaPimplrollsCode
import Derived.Test.YtipdmnibjkdpcaaPimplrollerput
namespace Go.Proofs.Ytipdmnibjkdpcaa.P
open Go.RowKit Go.Proofs.YtipdmnibjkdpcaaW.PrintWords Go.Proofs.YtipdmnibjkdpcaaW.PrintLast Go.Proofs.YtipdmnibjkdpcaaW.PrintMore
attribute [local go_sem] max2_int min2_int max_two min_two max_three min_three max_four min_four   -- for this text's walks alone
set_option linter.unusedVariables false
set_option linter.unusedSimpArgs false

/-! ### impl_FewestRolls: function 16, by hand -/
-- needs 36 30
def impl_FewestRolls.l0 : Nat → List Int → Int → Int → Int → Bool → Int → Option (List Int × Int × Int)
  | 0, _, _, _, _, _, _ => none
  | k + 1, cu, xl, xb, xt, xo, m => (impl_roller_put.f k cu xl xb xt xo m ([] : List Int) ([] : List Int)).bind fun t => (if t.2.1 = true then some (t.1, t.2.2.2.2.1, 0) else (if t.2.2.2.2.2 = true then some (([] : List Int), 0, 7) else impl_FewestRolls.l0 k cu t.2.2.1 t.2.2.2.1 t.2.2.2.2.1 t.2.2.2.2.2 (wrap64 (m + 1))))
def impl_FewestRolls.f (k : Nat) (l0 : List Int) (a1 : Int) (a2 : Int) : Option (List Int × Int × Int) := (impl_rollsCode.f k l0 a1 a2).bind fun t1 => (if t1 = 0 then (impl_FewestRolls.l0 k l0 a1 a2 0 false 0) else (some (([] : List Int), 0, t1)))
theorem impl_FewestRolls.mono_l : ∀ k cu xl xb xt xo m, LeO (impl_FewestRolls.l0 k cu xl xb xt xo m) (impl_FewestRolls.l0 (k + 1) cu xl xb xt xo m)
  | 0, _, _, _, _, _, _ => fun r h => by simp [impl_FewestRolls.l0] at h
  | k + 1, cu, xl, xb, xt, xo, m => by
    have ih := impl_FewestRolls.mono_l k
    unfold impl_FewestRolls.l0
    exact LeO.bind (impl_roller_put.mono _ _ _ _ _ _ _ _ _) (fun _ => LeO.ite (LeO.refl _) (LeO.ite (LeO.refl _) (ih _ _ _ _ _ _)))
theorem impl_FewestRolls.mono : ∀ a0 a1 a2 k, LeO (impl_FewestRolls.f k a0 a1 a2) (impl_FewestRolls.f (k + 1) a0 a1 a2) := by
  intro a0 a1 a2 k
  unfold impl_FewestRolls.f
  exact LeO.bind (impl_rollsCode.mono _ _ _ _) (fun _ => LeO.ite (impl_FewestRolls.mono_l _ _ _ _ _ _ _) (LeO.refl _))
set_option maxHeartbeats 8000000 in
set_option maxRecDepth 100000 in
theorem impl_FewestRolls.calls (k : Nat) (A0 : Option Addr) (c0 : Nat) (l0 : List Int) (a1 : Int) (a2 : Int) (r1 : List Int) (r2 : Int) (r3 : Int) (w : World) (hr0 : Kd.C (Kd.int .i64) w A0 l0.length l0) (hc0 : l0.length ≤ c0) (h : impl_FewestRolls.f k l0 a1 a2 = some (r1, r2, r3)) :
    Calls Try.prog 16 #[.slice A0 l0.length c0, .int .i64 a1, .int .i64 a2] w fun e w' => ∃ v0_ : Value, e = .returned (.tuple #[v0_, .int .i64 r2, .int .i64 r3]) ∧ Kd.R (Kd.int .i64) 2 w' w.heap.size (fun _ => True) v0_ r1 ∧ Below w.heap.size w w' := by
  have HR0 := Aside0.mk hr0
  have HC0 := Aside0.mk hc0
  clear hr0 hc0
  have HB := Aside0.mk (Below.refl w.heap.size w)
  unfold impl_FewestRolls.f at h
  obtain ⟨t1, A0_, H⟩ := Option.bind_eq_some_iff.mp h
  have AA := Aside0.mk A0_
  clear A0_ h
  by_cases c4 : t1 = 0
  · rw [if_pos c4] at H
    have c4b0 : (t1 == 0) = true := beq_iff_eq.mpr c4
    have c4b1 : (t1 != 0) = false := bne_eq_false_iff_eq.mpr c4
    clear c4
    have H' := Aside0.mk H
    clear H
    go_enter Try.func16, Try.ntmps16
    go_wp2_with (first | (go_at_call 30; (refine (impl_rollsCode.calls k A0 c0 l0 a1 a2 t1 _ HR0.out HC0.out AA.out).mono ?_); rintro e w5 ⟨rfl, hb⟩; have n0_ := Aside0.mk (below_step (by repeat (first | (with_reducible first | exact HB.out | apply below_alloc | apply pw_below_drewN | apply below_drew1) | exact HB.out)) hb); clear HB; have HB := n0_; clear n0_ hb) | ((with_reducible refine gate_dst (N := 25) rfl ?_); refine box_event ?hg (N := 25) ?hd (cs := #[.slice A0 l0.length c0, .int .i64 a1, .int .i64 a2, .int .i64 0, .bool false]) (t := 56) ?hr ?_; (case hd => rfl); (case hg => rfl); (case hr => first | (go_simp; done) | (go_simp; rfl)); intro gB hg w6 hblk hb; have HI := Aside0.mk (show impl_roller_put.IsS56 w w6 gB l0 a1 a2 0 false from ⟨A0, c0, hblk, by rw [hg]; exact below_size (by repeat (first | (with_reducible first | exact HB.out | apply below_alloc | apply pw_below_drewN | apply below_drew1) | exact HB.out)), HR0.out⟩); have n0_ := Aside0.mk (below_step (by repeat (first | (with_reducible first | exact HB.out | apply below_alloc | apply pw_below_drewN | apply below_drew1) | exact HB.out)) hb); clear HB; have HB := n0_; clear n0_ hg hblk hb))
    go_loopg [11] k (fun kq v11 w' => ∃ (xl xb xt : Int) (xo : Bool) (m : Int), v11 = .int .i64 m ∧ Aside0 (impl_FewestRolls.l0 kq l0 xl xb xt xo m = some (r1, r2, r3)) ∧ Aside0 (kq ≤ k) ∧ Aside0 (impl_roller_put.IsS56 w w' gB l0 xl xb xt xo) ∧ Aside0 (Below w.heap.size w w'))
    case atStart => exact ⟨a1, a2, 0, false, 0, rfl, H', ⟨Nat.le_refl _⟩, ⟨by repeat (first | (with_reducible first | exact HI.out | apply impl_roller_put.IsS56.alloc | apply impl_roller_put.IsS56.drewN | apply impl_roller_put.IsS56.drew) | exact HI.out)⟩, ⟨by repeat (first | (with_reducible first | exact HB.out | apply below_alloc | apply pw_below_drewN | apply below_drew1) | exact HB.out)⟩⟩
    case round =>
      clear H' HI HB AA
      obtain ⟨xl, xb, xt, xo, m, rfl, HA, HK1, HI, HB⟩ := hrel
      cases gk with
      | zero => exact absurd HA.out (by simp [impl_FewestRolls.l0])
      | succ k1 =>
        have H := HA.out
        clear HA
        simp only [impl_FewestRolls.l0] at H
        obtain ⟨⟨q1, q2, q3, q4, q5, q6⟩, A1_, H⟩ := Option.bind_eq_some_iff.mp H
        have A1 := Aside0.mk A1_
        clear A1_
        replace H : (if q2 = true then some (q1, q5, 0) else (if q6 = true then some (([] : List Int), 0, 7) else impl_FewestRolls.l0 k1 l0 q3 q4 q5 q6 (wrap64 (m + 1)))) = some (r1, r2, r3) := H
        cases q2 with
        | true =>
          rw [if_pos rfl] at H
          simp only [Option.some.injEq, Prod.mk.injEq] at H
          obtain ⟨rfl, rfl, rfl⟩ := H
          go_wp2_with (first | (go_at_call 36; (refine (impl_roller_put.calls k1 gB l0 xl xb xt xo m (fun _ => False) (.slice none 0 0) [] none 0 [] q1 true q3 q4 q5 q6 w _ (by repeat (first | (with_reducible first | exact HI.out | apply impl_roller_put.IsS56.alloc | apply impl_roller_put.IsS56.drewN | apply impl_roller_put.IsS56.drew) | exact HI.out)) (by repeat (first | (with_reducible first | exact HB.out | apply below_alloc | apply pw_below_drewN | apply below_drew1) | exact HB.out)) (Kd.R_nil _ _ _ _ _) (fun W_ _ => Kd.C_nil _ _) (Nat.le_refl _) A1.out).mono ?_); rintro e w7_ ⟨v7_, rfl, hr_, hi_, hb_, hk_⟩; have HR7 := Aside0.mk hr_; have n0_ := Aside0.mk hi_; have n1_ := Aside0.mk hb_; clear HI HB hr_ hb_ hk_; have HI := n0_; have HB := n1_; clear n0_ n1_; obtain ⟨AS_, cS_, HG_, _, _⟩ := hi_; have hc3_ := impl_roller_put.cellS56_3 HG_; have hc4_ := impl_roller_put.cellS56_4 HG_; clear HG_))
          repeat (go_quiet (fail); try go_wp2)
          go_ret3
          exact ⟨_, rfl, (by (with_reducible repeat (first | apply Kd.R_alloc | apply Kd.R_drewN | apply Kd.R_drew)); exact Kd.R_mono HR7.out (fun _ _ => trivial)), by repeat (first | (with_reducible first | exact HB.out | apply below_alloc | apply pw_below_drewN | apply below_drew1) | exact HB.out)⟩
        | false =>
          rw [if_neg (by decide)] at H
          cases q6 with
          | true =>
            rw [if_pos rfl] at H
            simp only [Option.some.injEq, Prod.mk.injEq] at H
            obtain ⟨rfl, rfl, rfl⟩ := H
            go_wp2_with (first | (go_at_call 36; (refine (impl_roller_put.calls k1 gB l0 xl xb xt xo m (fun _ => False) (.slice none 0 0) [] none 0 [] q1 false q3 q4 q5 true w _ (by repeat (first | (with_reducible first | exact HI.out | apply impl_roller_put.IsS56.alloc | apply impl_roller_put.IsS56.drewN | apply impl_roller_put.IsS56.drew) | exact HI.out)) (by repeat (first | (with_reducible first | exact HB.out | apply below_alloc | apply pw_below_drewN | apply below_drew1) | exact HB.out)) (Kd.R_nil _ _ _ _ _) (fun W_ _ => Kd.C_nil _ _) (Nat.le_refl _) A1.out).mono ?_); rintro e w7_ ⟨v7_, rfl, hr_, hi_, hb_, hk_⟩; have HR7 := Aside0.mk hr_; have n0_ := Aside0.mk hi_; have n1_ := Aside0.mk hb_; clear HI HB hr_ hb_ hk_; have HI := n0_; have HB := n1_; clear n0_ n1_; obtain ⟨AS_, cS_, HG_, _, _⟩ := hi_; have hc3_ := impl_roller_put.cellS56_3 HG_; have hc4_ := impl_roller_put.cellS56_4 HG_; clear HG_))
            repeat (go_quiet (fail); try go_wp2)
            go_ret3
            exact ⟨_, rfl, Kd.R_nil _ _ _ _ _, by repeat (first | (with_reducible first | exact HB.out | apply below_alloc | apply pw_below_drewN | apply below_drew1) | exact HB.out)⟩
          | false =>
            rw [if_neg (by decide)] at H
            have H' := Aside0.mk H
            clear H
            go_wp2_with (first | (go_at_call 36; (refine (impl_roller_put.calls k1 gB l0 xl xb xt xo m (fun _ => False) (.slice none 0 0) [] none 0 [] q1 false q3 q4 q5 false w _ (by repeat (first | (with_reducible first | exact HI.out | apply impl_roller_put.IsS56.alloc | apply impl_roller_put.IsS56.drewN | apply impl_roller_put.IsS56.drew) | exact HI.out)) (by repeat (first | (with_reducible first | exact HB.out | apply below_alloc | apply pw_below_drewN | apply below_drew1) | exact HB.out)) (Kd.R_nil _ _ _ _ _) (fun W_ _ => Kd.C_nil _ _) (Nat.le_refl _) A1.out).mono ?_); rintro e w7_ ⟨v7_, rfl, hr_, hi_, hb_, hk_⟩; have HR7 := Aside0.mk hr_; have n0_ := Aside0.mk hi_; have n1_ := Aside0.mk hb_; clear HI HB hr_ hb_ hk_; have HI := n0_; have HB := n1_; clear n0_ n1_; obtain ⟨AS_, cS_, HG_, _, _⟩ := hi_; have hc3_ := impl_roller_put.cellS56_3 HG_; have hc4_ := impl_roller_put.cellS56_4 HG_; clear HG_))
            repeat (go_quiet (fail); try go_wp2)
            go_roundg k1
            case measure => have := HK1.out; omega
            case rel => exact ⟨q3, q4, q5, false, wrap64 (m + 1), rfl, H', ⟨by have := HK1.out; omega⟩, ⟨by repeat (first | (with_reducible first | exact HI.out | apply impl_roller_put.IsS56.alloc | apply impl_roller_put.IsS56.drewN | apply impl_roller_put.IsS56.drew) | exact HI.out)⟩, ⟨by repeat (first | (with_reducible first | exact HB.out | apply below_alloc | apply pw_below_drewN | apply below_drew1) | exact HB.out)⟩⟩
  · rw [if_neg c4] at H
    have c4b0 : (t1 == 0) = false := beq_eq_false_iff_ne.mpr c4
    have c4b1 : (t1 != 0) = true := bne_iff_ne.mpr c4
    clear c4
    simp only [Option.some.injEq, Prod.mk.injEq] at H
    obtain ⟨rfl, rfl, rfl⟩ := H
    go_enter Try.func16, Try.ntmps16
    go_wp2_with (first | (go_at_call 30; (refine (impl_rollsCode.calls k A0 c0 l0 a1 a2 t1 _ HR0.out HC0.out AA.out).mono ?_); rintro e w5 ⟨rfl, hb⟩; have n0_ := Aside0.mk (below_step (by repeat (first | (with_reducible first | exact HB.out | apply below_alloc | apply pw_below_drewN | apply below_drew1) | exact HB.out)) hb); clear HB; have HB := n0_; clear n0_ hb))
    repeat (go_quiet (fail); try go_wp2)
    go_ret3
    exact ⟨_, rfl, Kd.R_nil _ _ _ _ _, by repeat (first | (with_reducible first | exact HB.out | apply below_alloc | apply pw_below_drewN | apply below_drew1) | exact HB.out)⟩

end Go.Proofs.Ytipdmnibjkdpcaa.P
