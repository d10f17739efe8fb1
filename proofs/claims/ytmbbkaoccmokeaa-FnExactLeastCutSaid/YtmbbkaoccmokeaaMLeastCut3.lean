/- The Go functions that the law FnExactLeastCut comes to, as plain Lean functions, the proofs that calls of them return what those tell, and the plain lemmas on them; no condition but those that each theorem states. -/
import Derived.Test.YtmbbkaoccmokeaaMLeastCut1
import Derived.Test.YtmbbkaoccmokeaaMLeastCut2
import Derived.OpenShut
import Derived.Test.YtmbbkaoccmokeaaRows
import Derived.Test.YtmbbkaoccmokeaaWMore
import Derived.Deep.Slices
import Derived.WalkKit
import Derived.ProofKit
import Derived.ShutString
import Derived.ChangeOld
import Derived.Below
import Derived.SizedLaws
import Derived.ChangeArms
import Derived.Carry
namespace Go.Proofs.Ytmbbkaoccmokeaa.P
open Go.RowKit Go.Proofs.YtmbbkaoccmokeaaW.PrintWords Go.Proofs.YtmbbkaoccmokeaaW.PrintLast Go.Proofs.YtmbbkaoccmokeaaW.PrintMore
attribute [local go_sem] max2_int min2_int max_two min_two max_three min_three max_four min_four   -- for this text's walks alone
set_option linter.unusedVariables false
set_option linter.unusedSimpArgs false

/-! ### impl_CutsFor: function 41 -/
def impl_CutsFor.l0 : Nat → Int → List Int → List (S26) → Int → Int → Option (List Int × Int)
  | 0, _, _, _, _, _ => none
  | k + 1, x1, x7, x21, x22, x23 => if x23 < x22 then (if 0 ≤ x23 then (if x23 < (x21.length : Int) then ((impl_Box_cut.f k ((rd_T26 x21 x23).f0) ((rd_T26 x21 x23).f1) ((rd_T26 x21 x23).f2) x1).bind fun bt426 => (if bt426.2 = true then (if x7.length < 17592186044416 then (impl_CutsFor.l0 k x1 (x7 ++ [bt426.1]) x21 x22 (wrap64 (x23 + 1))) else (none)) else (some (([] : List Int), 6)))) else (none)) else (none)) else (some (x7, 0))
def impl_CutsFor.f (k : Nat) (l0 : List (S26)) (a1 : Int) : Option (List Int × Int) := (impl_boxesCode.f k l0).bind fun t419 => (if t419 = 0 then ((impl_within.f a1 1 400).bind fun t420 => (if t420 = true then (impl_CutsFor.l0 k a1 (([] : List Int)) l0 (l0.length : Int) 0) else (some (([] : List Int), 2)))) else (some (([] : List Int), t419)))
theorem impl_CutsFor.mono_l : ∀ k, (∀ y0 y1 y2 y3 y4, LeO (impl_CutsFor.l0 k y0 y1 y2 y3 y4) (impl_CutsFor.l0 (k + 1) y0 y1 y2 y3 y4))
  | 0 => fun _ _ _ _ _ r h => by simp [impl_CutsFor.l0] at h
  | k + 1 => by
    have ih0 := impl_CutsFor.mono_l k
    · intro y0 y1 y2 y3 y4
      unfold impl_CutsFor.l0
      repeat' first
      | (with_reducible exact ih0 _ _ _ _ _)
      | (with_reducible exact impl_Box_cut.mono _ _ _ _ _)
      | (with_reducible exact impl_boxesCode.mono _ _)
      | (with_reducible exact LeO.refl _)
      | (with_reducible exact LeO.none _)
      | (with_reducible refine LeO.ite ?_ ?_)
      | (with_reducible refine LeO.bind ?_ (fun _ => ?_))
      | exact ih0 _ _ _ _ _
      | exact impl_Box_cut.mono _ _ _ _ _
      | exact impl_boxesCode.mono _ _
      | exact LeO.none _
      | refine LeO.ite ?_ ?_
      | refine LeO.bind ?_ (fun _ => ?_)
theorem impl_CutsFor.mono : ∀ a0 a1 k, LeO (impl_CutsFor.f k a0 a1) (impl_CutsFor.f (k + 1) a0 a1) := by
  intro a0 a1 k
  have ih0 := impl_CutsFor.mono_l k
  unfold impl_CutsFor.f
  repeat' first
      | (with_reducible exact ih0 _ _ _ _ _)
      | (with_reducible exact impl_Box_cut.mono _ _ _ _ _)
      | (with_reducible exact impl_boxesCode.mono _ _)
      | (with_reducible exact LeO.refl _)
      | (with_reducible exact LeO.none _)
      | (with_reducible refine LeO.ite ?_ ?_)
      | (with_reducible refine LeO.bind ?_ (fun _ => ?_))
      | exact ih0 _ _ _ _ _
      | exact impl_Box_cut.mono _ _ _ _ _
      | exact impl_boxesCode.mono _ _
      | exact LeO.none _
      | refine LeO.ite ?_ ?_
      | refine LeO.bind ?_ (fun _ => ?_)
set_option maxHeartbeats 8000000 in
set_option maxRecDepth 100000 in
theorem impl_CutsFor.calls (k : Nat) (A0 : Option Addr) (c0 : Nat) (l0 : List (S26)) (a1 : Int) (r1 : List Int) (r2 : Int) (w : World) (hr0 : Kd.C k26 w A0 l0.length l0) (hc0 : l0.length ≤ c0) (h : impl_CutsFor.f k l0 a1 = some (r1, r2)) :
    Calls Try.prog 41 #[.slice A0 l0.length c0, .int .i64 a1] w fun e w' => ∃ v0_ : Value, e = .returned (.tuple #[v0_, .int .i64 r2]) ∧ Kd.R (Kd.int .i64) 2 w' w.heap.size (fun _ => True) v0_ r1 ∧ Below w.heap.size w w' := by
  have hu26 := Try.underlying26
  have HR0 := Aside0.mk hr0
  have HC0 := Aside0.mk hc0
  clear hr0 hc0
  have HB := Aside0.mk (Below.refl w.heap.size w)
  have H : ((impl_boxesCode.f k l0).bind fun t419 => (if t419 = 0 then ((impl_within.f a1 1 400).bind fun t420 => (if t420 = true then (impl_CutsFor.l0 k a1 (([] : List Int)) l0 (l0.length : Int) 0) else (some (([] : List Int), 2)))) else (some (([] : List Int), t419)))) = some (r1, r2) := h
  clear h
  replace H := Option.bind_eq_some_iff.mp H
  obtain ⟨t419, A30, H⟩ := H
  replace H : (if t419 = 0 then ((impl_within.f a1 1 400).bind fun t420 => (if t420 = true then (impl_CutsFor.l0 k a1 (([] : List Int)) l0 (l0.length : Int) 0) else (some (([] : List Int), 2)))) else (some (([] : List Int), t419))) = some (r1, r2) := H
  have A3 := Aside0.mk A30
  clear A30
  by_cases c4 : t419 = 0
  · rw [if_pos c4] at H
    have c4b0 : (t419 == 0) = true := beq_iff_eq.mpr c4
    have c4b1 : (t419 != 0) = false := bne_eq_false_iff_eq.mpr c4
    clear c4
    replace H := Option.bind_eq_some_iff.mp H
    obtain ⟨t420, A50, H⟩ := H
    replace H : (if t420 = true then (impl_CutsFor.l0 k a1 (([] : List Int)) l0 (l0.length : Int) 0) else (some (([] : List Int), 2))) = some (r1, r2) := H
    have A5 := Aside0.mk A50
    clear A50
    by_cases c6 : t420 = true
    · subst c6
      have H1 : (impl_CutsFor.l0 k a1 (([] : List Int)) l0 (l0.length : Int) 0) = some (r1, r2) := by rw [if_pos rfl] at H; exact H
      clear H
      have H := H1
      clear H1
      obtain ⟨y421, hy421⟩ : ∃ y_ : List Int, y_ = (([] : List Int)) := ⟨_, rfl⟩
      replace H : (impl_CutsFor.l0 k a1 y421 l0 (l0.length : Int) 0) = some (r1, r2) := by first | (rw [hy421]; with_reducible exact H) | (have H2_ := (Option.bind_some _ _).symm.trans H; rw [hy421]; with_reducible exact H2_) | (have H2_ := (Option.bind_some _ _).symm.trans H; with_reducible exact H2_) | with_reducible exact H | (rw [hy421]; exact H) | exact H
      have Ny421 := Aside0.mk hy421
      clear hy421
      have H' := Aside0.mk H
      clear H
      go_enter Try.func41, Try.ntmps41
      go_wp2_with (first | ((with_reducible refine gate_callee (f := 64) rfl ?_); refine goesL_ (some 13) rfl rfl Try.func64 (by kernel_rfl) rfl #[.slice A0 l0.length c0] rfl (by (try simp only [List.map_toArray, List.map_cons, List.map_nil]); first | done | rfl | (simp only [List.length_drop, List.length_take]; rfl)) ?_; (with_reducible refine (impl_boxesCode.calls k _ _ l0 t419 _ ?side1 ?side2 A3.out).mono ?_); (case side1 => repeat (first | exact HR0.out | (with_reducible refine Kd.C_alloc ?_ _) | (with_reducible refine Kd.C_drewN ?_ _) | (with_reducible refine Kd.C_drew ?_))); (case side2 => exact HC0.out); rintro e w7 ⟨rfl, hb⟩; refine ⟨_, rfl, ?_⟩; have n0_ := Aside0.mk (below_step (by repeat (first | (with_reducible first | exact HB.out | apply below_alloc | apply pw_below_drewN | apply below_drew1) | exact HB.out)) hb); clear HB; have HB := n0_; clear n0_; (try clear hb); (try clear hb2); (try clear hk); (try clear hi)) | ((with_reducible refine gate_callee (f := 57) rfl ?_); refine goesL_ (some 18) rfl rfl Try.func57 (by kernel_rfl) rfl #[.int .i64 a1, .int .i64 1, .int .i64 400] rfl (by (try simp only [List.map_toArray, List.map_cons, List.map_nil]); first | done | rfl | (simp only [List.length_drop, List.length_take]; rfl)) ?_; (with_reducible refine (impl_within.calls a1 1 400 true _ A5.out).mono ?_); rintro e w' ⟨rfl, ⟨nd, rfl⟩⟩; refine ⟨_, rfl, ?_⟩) | ((with_reducible refine gate_dst (N := 20) rfl ?_); refine Kd.R_lit (Kd.int .i64) _ 2 ?hg (N := 20) ?hd (xs := ([] : List Int)) (inner := []) (ok := fun _ => True) (okp := fun _ => True) ?hr ?hp (fun _ hk => hk) trivial (Below.refl _ _) (Nat.le_refl _) (by simp) ?_; (case hd => rfl); (case hg => rfl); (case hr => first | (go_simp; done) | (go_simp; rfl)); (case hp => exact (Reps.none _ _)); intro v422 w8 ho9 hb hg_ hnew_; clear hg_ hnew_; (first | rw [← Ny421.out] at ho9 | (simp only [Int.reduceToNat] at ho9; rw [← Ny421.out] at ho9)); have n0_ := Aside0.mk (Kd.R_lower ho9 (below_size (by repeat (first | (with_reducible first | exact HB.out | apply below_alloc | apply pw_below_drewN | apply below_drew1) | exact HB.out)))); have n1_ := Aside0.mk (below_step (by repeat (first | (with_reducible first | exact HB.out | apply below_alloc | apply pw_below_drewN | apply below_drew1) | exact HB.out)) hb); clear HB; have HO423 := n0_; have HB := n1_; clear n0_ n1_; clear hb ho9))
      go_loopg [7, 23] k (fun kq v7 v23 w' => ∃ (x7_1 : List Int) (x23_1 : Int), v23 = .int .i64 x23_1 ∧ Aside0 (impl_CutsFor.l0 kq a1 x7_1 l0 (l0.length : Int) x23_1 = some (r1, r2)) ∧ Aside0 (kq ≤ k) ∧ Aside0 (Kd.R (Kd.int .i64) 2 w' w.heap.size (fun _ => True) v7 x7_1) ∧ Aside0 (Below w.heap.size w w'))
      case atStart => exact ⟨(y421), (0), (by first | rfl | (simp; done) | (simp [*]; done)), H', ⟨Nat.le_refl _⟩, ⟨by (with_reducible repeat (first | apply Kd.R_alloc | apply Kd.R_drewN | apply Kd.R_drew)); exact HO423.out⟩, ⟨by repeat (first | (with_reducible first | exact HB.out | apply below_alloc | apply pw_below_drewN | apply below_drew1) | exact HB.out)⟩⟩
      case round =>
        clear H'
        try clear p2
        try clear c4
        try clear c4b0
        try clear c4b1
        try clear c5
        try clear c6
        obtain ⟨x7_1, x23_1, rfl, HA, HK1, HO_7, HB⟩ := hrel
        cases gk with
        | zero => exact absurd HA.out (by simp [impl_CutsFor.l0])
        | succ k1 =>
          have H := HA.out
          clear HA
          simp only [impl_CutsFor.l0] at H
          by_cases c10 : x23_1 < (l0.length : Int)
          · rw [if_pos c10] at H
            have c10b0 : decide (x23_1 < (l0.length : Int)) = true := decide_eq_true c10
            clear c10
            by_cases c11 : 0 ≤ x23_1
            · rw [if_pos c11] at H
              have c11b0 : decide (0 ≤ x23_1) = true := decide_eq_true c11
              clear c11
              by_cases c12 : x23_1 < (l0.length : Int)
              · rw [if_pos c12] at H
                have c12b0 : decide (x23_1 < (l0.length : Int)) = true := decide_eq_true c12
                clear c12
                replace H := Option.bind_eq_some_iff.mp H
                obtain ⟨⟨t426, t427⟩, A130, H⟩ := H
                replace H : (if t427 = true then (if x7_1.length < 17592186044416 then (impl_CutsFor.l0 k1 a1 (x7_1 ++ [t426]) l0 (l0.length : Int) (wrap64 (x23_1 + 1))) else (none)) else (some (([] : List Int), 6))) = some (r1, r2) := H
                have A13 := Aside0.mk A130
                clear A130
                by_cases c14 : t427 = true
                · subst c14
                  have H1 : (if x7_1.length < 17592186044416 then (impl_CutsFor.l0 k1 a1 (x7_1 ++ [t426]) l0 (l0.length : Int) (wrap64 (x23_1 + 1))) else (none)) = some (r1, r2) := by rw [if_pos rfl] at H; exact H
                  clear H
                  have H := H1
                  clear H1
                  by_cases c15 : x7_1.length < 17592186044416
                  · rw [if_pos c15] at H
                    have LMc15 := Aside0.mk c15
                    clear c15
                    obtain ⟨y428, hy428⟩ : ∃ y_ : List Int, y_ = (x7_1 ++ [t426]) := ⟨_, rfl⟩
                    replace H : (impl_CutsFor.l0 k1 a1 y428 l0 (l0.length : Int) (wrap64 (x23_1 + 1))) = some (r1, r2) := by first | (rw [hy428]; with_reducible exact H) | (have H2_ := (Option.bind_some _ _).symm.trans H; rw [hy428]; with_reducible exact H2_) | (have H2_ := (Option.bind_some _ _).symm.trans H; with_reducible exact H2_) | with_reducible exact H | (rw [hy428]; exact H) | exact H
                    have Ny428 := Aside0.mk hy428
                    clear hy428
                    have H' := Aside0.mk H
                    clear H
                    have p424 : 0 ≤ (x23_1 : Int) := of_decide_eq_true (by first | (with_reducible assumption) | assumption)
                    have q424 : x23_1 < (l0.length : Int) := of_decide_eq_true (by first | (with_reducible assumption) | assumption)
                    obtain ⟨ad424, e424, hx424_0, hx424_1, hx424_2⟩ := at_T26 HR0.out x23_1 p424 q424
                    cases e424
                    replace hx424_0 := (HB.out.cell (World.block_lt_of_cell? w _ hx424_0)).trans hx424_0
                    replace hx424_1 := (HB.out.cell (World.block_lt_of_cell? w _ hx424_1)).trans hx424_1
                    replace hx424_2 := (HB.out.cell (World.block_lt_of_cell? w _ hx424_2)).trans hx424_2
                    replace p424 := eq_true p424
                    replace q424 := eq_true q424
                    go_wp2_with (first | ((with_reducible refine gate_dst (N := 9) rfl ?_); refine box_event ?hg (N := 9) ?hd (cs := #[.int .i8 0, .int .i8 0, .int .i8 0]) (t := 26) ?hr ?_; (case hd => rfl); (case hg => rfl); (case hr => first | (go_simp; done) | (go_simp; rfl)); intro gb425 hg w16 hbox hb; have n0_ := Aside0.mk (Kd.R_below (by (with_reducible repeat (first | apply Kd.R_alloc | apply Kd.R_drewN | apply Kd.R_drew)); exact HO_7.out) hb); have n1_ := Aside0.mk (below_step (by repeat (first | (with_reducible first | exact HB.out | apply below_alloc | apply pw_below_drewN | apply below_drew1) | exact HB.out)) hb); have n2_ := Aside0.mk (hbox); have n3_ := Aside0.mk ((by rw [hg]; exact (below_size (by repeat (first | (with_reducible first | exact HB.out | apply below_alloc | apply pw_below_drewN | apply below_drew1) | exact HB.out))) : w.heap.size ≤ gb425)); have n4_ := Aside0.mk ((by rw [hg]; exact (below_size (by repeat (first | (with_reducible first | exact HB.out | apply below_alloc | apply pw_below_drewN | apply below_drew1) | exact HB.out))) : w.heap.size ≤ gb425)); clear HO_7; clear HB; have HO_7 := n0_; have HB := n1_; have BK425 := n2_; have GW425 := n3_; have GE425 := n4_; clear n0_ n1_ n2_ n3_ n4_; clear hb hbox hg; have hcz17_0 : w16.cell? ⟨gb425, 0, none⟩ = some (.int .i8 0) := (blk_cell BK425.out 0).trans rfl; have hcz17_1 : w16.cell? ⟨gb425, 1, none⟩ = some (.int .i8 0) := (blk_cell BK425.out 1).trans rfl; have hcz17_2 : w16.cell? ⟨gb425, 2, none⟩ = some (.int .i8 0) := (blk_cell BK425.out 2).trans rfl; have hfz17_0 := blk_frozen BK425.out 0; have hfz17_1 := blk_frozen BK425.out 1; have hfz17_2 := blk_frozen BK425.out 2) | ((with_reducible refine gate_callee (f := 62) rfl ?_); refine goesL_ (some 30) rfl rfl Try.func62 (by kernel_rfl) rfl #[.agg #[.int .i8 ((rd_T26 l0 x23_1).f0), .int .i8 ((rd_T26 l0 x23_1).f1), .int .i8 ((rd_T26 l0 x23_1).f2)], .int .i64 a1] rfl (by (try simp only [List.map_toArray, List.map_cons, List.map_nil]); first | done | rfl | (simp only [List.length_drop, List.length_take]; rfl)) ?_; (with_reducible refine (impl_Box_cut.calls k1 ((rd_T26 l0 x23_1).f0) ((rd_T26 l0 x23_1).f1) ((rd_T26 l0 x23_1).f2) a1 t426 true _ A13.out).mono ?_); rintro e w18 ⟨rfl, hb⟩; refine ⟨_, rfl, ?_⟩; have n0_ := Aside0.mk (Kd.R_below (by (with_reducible repeat (first | apply Kd.R_alloc | apply Kd.R_drewN | apply Kd.R_drew)); exact (Kd.R_mono (Kd.R_far (p := ⟨gb425, 2, none⟩) (Kd.R_far (p := ⟨gb425, 1, none⟩) (Kd.R_far (p := ⟨gb425, 0, none⟩) (Kd.R_types HO_7.out BK425.out (by decide)) (fun _ hk => hk.2) (.int .i8 ((rd_T26 l0 x23_1).f0))) (fun _ hk => hk.2) (.int .i8 ((rd_T26 l0 x23_1).f1))) (fun _ hk => hk.2) (.int .i8 ((rd_T26 l0 x23_1).f2))) (fun _ h_ => h_.1))) hb); have n1_ := Aside0.mk (blk_below (g := gb425) (o := .cells #[.int .i8 ((rd_T26 l0 x23_1).f0), .int .i8 ((rd_T26 l0 x23_1).f1), .int .i8 ((rd_T26 l0 x23_1).f2)] 26 (0, 0)) (by (with_reducible repeat (first | refine blk_drewN ?_ _ | refine blk_drew ?_ | refine blk_alloc ?_ _)); refine blk_put (cs := #[.int .i8 ((rd_T26 l0 x23_1).f0), .int .i8 ((rd_T26 l0 x23_1).f1), .int .i8 0]) ?_ 2 _ rfl; (with_reducible repeat (first | refine blk_drewN ?_ _ | refine blk_drew ?_ | refine blk_alloc ?_ _)); refine blk_put (cs := #[.int .i8 ((rd_T26 l0 x23_1).f0), .int .i8 0, .int .i8 0]) ?_ 1 _ rfl; (with_reducible repeat (first | refine blk_drewN ?_ _ | refine blk_drew ?_ | refine blk_alloc ?_ _)); refine blk_put (cs := #[.int .i8 0, .int .i8 0, .int .i8 0]) ?_ 0 _ rfl; (with_reducible repeat (first | refine blk_drewN ?_ _ | refine blk_drew ?_ | refine blk_alloc ?_ _)); exact BK425.out) hb); have n2_ := Aside0.mk (below_step (by repeat (first | (with_reducible first | exact HB.out | apply below_alloc | apply pw_below_drewN | apply below_drew1 | refine below_set ?_ GE425.out) | exact HB.out)) hb); clear HO_7; clear BK425; clear HB; have HO_7 := n0_; have BK425 := n1_; have HB := n2_; clear n0_ n1_ n2_; (try clear hb); (try clear hb2); (try clear hk); (try clear hi)) | ((with_reducible refine gate_builtin (b := .append) (xs := #[.tmp 35, .tmp 37]) rfl ?_); at_builtin; refine Kd.R_append (Kd.int .i64) (w0 := w) w.heap.size rfl (.tmp 35) (.tmp 37) 50 2 (.int .i64 0) 8 rfl Try.underlying50 info2 rfl (by decide) (by omega) u7 x7_1 t426 [.int .i64 t426] (fun _ => True) (fun _ => False) rfl rfl ?aP (fun _ hk => hk.elim) ?aF ?aO ?aB ?aS ?aL ?_; (case aP => exact rfl); (case aB => exact (by repeat (first | (with_reducible first | exact HB.out | apply below_alloc | apply pw_below_drewN | apply below_drew1 | refine below_set ?_ GE425.out) | exact HB.out))); (case aF => exact (fun _ _ => trivial)); (case aO => exact (by (with_reducible repeat (first | apply Kd.R_alloc | apply Kd.R_drewN | apply Kd.R_drew)); exact HO_7.out)); (case aS => exact (below_size (by repeat (first | (with_reducible first | exact HB.out | apply below_alloc | apply pw_below_drewN | apply below_drew1 | refine below_set ?_ GE425.out) | exact HB.out)))); (case aL => have := LMc15.out; omega); intro v429 w19 ho hb hg hat; rw [← Ny428.out] at ho; have n0_ := Aside0.mk (blk_grown (g := gb425) (o := .cells #[.int .i8 ((rd_T26 l0 x23_1).f0), .int .i8 ((rd_T26 l0 x23_1).f1), .int .i8 ((rd_T26 l0 x23_1).f2)] 26 (0, 0)) (by (with_reducible repeat (first | refine blk_drewN ?_ _ | refine blk_drew ?_ | refine blk_alloc ?_ _)); exact BK425.out) hg (Kd.R_ne HO_7.out BK425.out (by decide))); have n1_ := Aside0.mk (hb); have n2_ := Aside0.mk (ho); clear BK425; clear HB; clear HO_7; have BK425 := n0_; have HB := n1_; have HO430 := n2_; clear n0_ n1_ n2_; clear ho hb hg hat))
                    go_roundg k1
                    case measure => have := HK1.out; omega
                    case rel => exact ⟨(y428), (wrap64 (x23_1 + 1)), (by first | rfl | (simp; done) | (simp [*]; done)), H', ⟨by have := HK1.out; omega⟩, ⟨by (with_reducible repeat (first | apply Kd.R_alloc | apply Kd.R_drewN | apply Kd.R_drew)); exact HO430.out⟩, ⟨by repeat (first | (with_reducible first | exact HB.out | apply below_alloc | apply pw_below_drewN | apply below_drew1 | refine below_set ?_ GE425.out) | exact HB.out)⟩⟩
                  · rw [if_neg c15] at H
                    exact absurd H (by simp)
                · replace c14 := Bool.eq_false_iff.mpr c14
                  subst c14
                  have H1 : (some (([] : List Int), 6)) = some (r1, r2) := by rw [if_neg (show ¬ (false = true) by decide)] at H; exact H
                  clear H
                  have H := H1
                  clear H1
                  simp only [Option.some.injEq, Prod.mk.injEq] at H
                  obtain ⟨rfl, rfl⟩ := H
                  have p424 : 0 ≤ (x23_1 : Int) := of_decide_eq_true (by first | (with_reducible assumption) | assumption)
                  have q424 : x23_1 < (l0.length : Int) := of_decide_eq_true (by first | (with_reducible assumption) | assumption)
                  obtain ⟨ad424, e424, hx424_0, hx424_1, hx424_2⟩ := at_T26 HR0.out x23_1 p424 q424
                  cases e424
                  replace hx424_0 := (HB.out.cell (World.block_lt_of_cell? w _ hx424_0)).trans hx424_0
                  replace hx424_1 := (HB.out.cell (World.block_lt_of_cell? w _ hx424_1)).trans hx424_1
                  replace hx424_2 := (HB.out.cell (World.block_lt_of_cell? w _ hx424_2)).trans hx424_2
                  replace p424 := eq_true p424
                  replace q424 := eq_true q424
                  go_wp2_with (first | ((with_reducible refine gate_dst (N := 9) rfl ?_); refine box_event ?hg (N := 9) ?hd (cs := #[.int .i8 0, .int .i8 0, .int .i8 0]) (t := 26) ?hr ?_; (case hd => rfl); (case hg => rfl); (case hr => first | (go_simp; done) | (go_simp; rfl)); intro gb425 hg w20 hbox hb; have n0_ := Aside0.mk (Kd.R_below (by (with_reducible repeat (first | apply Kd.R_alloc | apply Kd.R_drewN | apply Kd.R_drew)); exact HO_7.out) hb); have n1_ := Aside0.mk (below_step (by repeat (first | (with_reducible first | exact HB.out | apply below_alloc | apply pw_below_drewN | apply below_drew1) | exact HB.out)) hb); have n2_ := Aside0.mk (hbox); have n3_ := Aside0.mk ((by rw [hg]; exact (below_size (by repeat (first | (with_reducible first | exact HB.out | apply below_alloc | apply pw_below_drewN | apply below_drew1) | exact HB.out))) : w.heap.size ≤ gb425)); have n4_ := Aside0.mk ((by rw [hg]; exact (below_size (by repeat (first | (with_reducible first | exact HB.out | apply below_alloc | apply pw_below_drewN | apply below_drew1) | exact HB.out))) : w.heap.size ≤ gb425)); clear HO_7; clear HB; have HO_7 := n0_; have HB := n1_; have BK425 := n2_; have GW425 := n3_; have GE425 := n4_; clear n0_ n1_ n2_ n3_ n4_; clear hb hbox hg; have hcz21_0 : w20.cell? ⟨gb425, 0, none⟩ = some (.int .i8 0) := (blk_cell BK425.out 0).trans rfl; have hcz21_1 : w20.cell? ⟨gb425, 1, none⟩ = some (.int .i8 0) := (blk_cell BK425.out 1).trans rfl; have hcz21_2 : w20.cell? ⟨gb425, 2, none⟩ = some (.int .i8 0) := (blk_cell BK425.out 2).trans rfl; have hfz21_0 := blk_frozen BK425.out 0; have hfz21_1 := blk_frozen BK425.out 1; have hfz21_2 := blk_frozen BK425.out 2) | ((with_reducible refine gate_callee (f := 62) rfl ?_); refine goesL_ (some 30) rfl rfl Try.func62 (by kernel_rfl) rfl #[.agg #[.int .i8 ((rd_T26 l0 x23_1).f0), .int .i8 ((rd_T26 l0 x23_1).f1), .int .i8 ((rd_T26 l0 x23_1).f2)], .int .i64 a1] rfl (by (try simp only [List.map_toArray, List.map_cons, List.map_nil]); first | done | rfl | (simp only [List.length_drop, List.length_take]; rfl)) ?_; (with_reducible refine (impl_Box_cut.calls k1 ((rd_T26 l0 x23_1).f0) ((rd_T26 l0 x23_1).f1) ((rd_T26 l0 x23_1).f2) a1 t426 false _ A13.out).mono ?_); rintro e w22 ⟨rfl, hb⟩; refine ⟨_, rfl, ?_⟩; have n0_ := Aside0.mk (Kd.R_below (by (with_reducible repeat (first | apply Kd.R_alloc | apply Kd.R_drewN | apply Kd.R_drew)); exact (Kd.R_mono (Kd.R_far (p := ⟨gb425, 2, none⟩) (Kd.R_far (p := ⟨gb425, 1, none⟩) (Kd.R_far (p := ⟨gb425, 0, none⟩) (Kd.R_types HO_7.out BK425.out (by decide)) (fun _ hk => hk.2) (.int .i8 ((rd_T26 l0 x23_1).f0))) (fun _ hk => hk.2) (.int .i8 ((rd_T26 l0 x23_1).f1))) (fun _ hk => hk.2) (.int .i8 ((rd_T26 l0 x23_1).f2))) (fun _ h_ => h_.1))) hb); have n1_ := Aside0.mk (blk_below (g := gb425) (o := .cells #[.int .i8 ((rd_T26 l0 x23_1).f0), .int .i8 ((rd_T26 l0 x23_1).f1), .int .i8 ((rd_T26 l0 x23_1).f2)] 26 (0, 0)) (by (with_reducible repeat (first | refine blk_drewN ?_ _ | refine blk_drew ?_ | refine blk_alloc ?_ _)); refine blk_put (cs := #[.int .i8 ((rd_T26 l0 x23_1).f0), .int .i8 ((rd_T26 l0 x23_1).f1), .int .i8 0]) ?_ 2 _ rfl; (with_reducible repeat (first | refine blk_drewN ?_ _ | refine blk_drew ?_ | refine blk_alloc ?_ _)); refine blk_put (cs := #[.int .i8 ((rd_T26 l0 x23_1).f0), .int .i8 0, .int .i8 0]) ?_ 1 _ rfl; (with_reducible repeat (first | refine blk_drewN ?_ _ | refine blk_drew ?_ | refine blk_alloc ?_ _)); refine blk_put (cs := #[.int .i8 0, .int .i8 0, .int .i8 0]) ?_ 0 _ rfl; (with_reducible repeat (first | refine blk_drewN ?_ _ | refine blk_drew ?_ | refine blk_alloc ?_ _)); exact BK425.out) hb); have n2_ := Aside0.mk (below_step (by repeat (first | (with_reducible first | exact HB.out | apply below_alloc | apply pw_below_drewN | apply below_drew1 | refine below_set ?_ GE425.out) | exact HB.out)) hb); clear HO_7; clear BK425; clear HB; have HO_7 := n0_; have BK425 := n1_; have HB := n2_; clear n0_ n1_ n2_; (try clear hb); (try clear hb2); (try clear hk); (try clear hi)))
                  go_ret2
                  exact ⟨_, by first | rfl | (simp [errW_none, errW_some] <;> rfl) | (simp [*, errW_none, errW_some] <;> rfl), by first | exact Kd.R_nil _ _ _ _ _ | exact Kd.N_nil _ _ _ _ _ | exact Kd.V_nil _ _ _ _ _ | exact Kd.Q_nil _ _ _ _ _ | exact Kd.S_nil _ _ _ _ _, by repeat (first | (with_reducible first | exact HB.out | apply below_alloc | apply pw_below_drewN | apply below_drew1 | refine below_set ?_ GE425.out) | exact HB.out)⟩
              · rw [if_neg c12] at H
                exact absurd H (by simp)
            · rw [if_neg c11] at H
              exact absurd H (by simp)
          · rw [if_neg c10] at H
            have c10b0 : decide (x23_1 < (l0.length : Int)) = false := decide_eq_false c10
            clear c10
            simp only [Option.some.injEq, Prod.mk.injEq] at H
            obtain ⟨rfl, rfl⟩ := H
            go_wp2
            go_ret2
            exact ⟨_, by first | rfl | (simp [errW_none, errW_some] <;> rfl) | (simp [*, errW_none, errW_some] <;> rfl), by (with_reducible repeat (first | apply Kd.R_alloc | apply Kd.R_drewN | apply Kd.R_drew)); exact HO_7.out, by repeat (first | (with_reducible first | exact HB.out | apply below_alloc | apply pw_below_drewN | apply below_drew1) | exact HB.out)⟩
    · replace c6 := Bool.eq_false_iff.mpr c6
      subst c6
      have H1 : (some (([] : List Int), 2)) = some (r1, r2) := by rw [if_neg (show ¬ (false = true) by decide)] at H; exact H
      clear H
      have H := H1
      clear H1
      simp only [Option.some.injEq, Prod.mk.injEq] at H
      obtain ⟨rfl, rfl⟩ := H
      go_enter Try.func41, Try.ntmps41
      go_wp2_with (first | ((with_reducible refine gate_callee (f := 64) rfl ?_); refine goesL_ (some 13) rfl rfl Try.func64 (by kernel_rfl) rfl #[.slice A0 l0.length c0] rfl (by (try simp only [List.map_toArray, List.map_cons, List.map_nil]); first | done | rfl | (simp only [List.length_drop, List.length_take]; rfl)) ?_; (with_reducible refine (impl_boxesCode.calls k _ _ l0 t419 _ ?side1 ?side2 A3.out).mono ?_); (case side1 => repeat (first | exact HR0.out | (with_reducible refine Kd.C_alloc ?_ _) | (with_reducible refine Kd.C_drewN ?_ _) | (with_reducible refine Kd.C_drew ?_))); (case side2 => exact HC0.out); rintro e w23 ⟨rfl, hb⟩; refine ⟨_, rfl, ?_⟩; have n0_ := Aside0.mk (below_step (by repeat (first | (with_reducible first | exact HB.out | apply below_alloc | apply pw_below_drewN | apply below_drew1) | exact HB.out)) hb); clear HB; have HB := n0_; clear n0_; (try clear hb); (try clear hb2); (try clear hk); (try clear hi)) | ((with_reducible refine gate_callee (f := 57) rfl ?_); refine goesL_ (some 18) rfl rfl Try.func57 (by kernel_rfl) rfl #[.int .i64 a1, .int .i64 1, .int .i64 400] rfl (by (try simp only [List.map_toArray, List.map_cons, List.map_nil]); first | done | rfl | (simp only [List.length_drop, List.length_take]; rfl)) ?_; (with_reducible refine (impl_within.calls a1 1 400 false _ A5.out).mono ?_); rintro e w' ⟨rfl, ⟨nd, rfl⟩⟩; refine ⟨_, rfl, ?_⟩))
      go_ret2
      exact ⟨_, by first | rfl | (simp [errW_none, errW_some] <;> rfl) | (simp [*, errW_none, errW_some] <;> rfl), by first | exact Kd.R_nil _ _ _ _ _ | exact Kd.N_nil _ _ _ _ _ | exact Kd.V_nil _ _ _ _ _ | exact Kd.Q_nil _ _ _ _ _ | exact Kd.S_nil _ _ _ _ _, by repeat (first | (with_reducible first | exact HB.out | apply below_alloc | apply pw_below_drewN | apply below_drew1) | exact HB.out)⟩
  · rw [if_neg c4] at H
    have c4b0 : (t419 == 0) = false := beq_eq_false_iff_ne.mpr c4
    have c4b1 : (t419 != 0) = true := bne_iff_ne.mpr c4
    simp only [Option.some.injEq, Prod.mk.injEq] at H
    obtain ⟨rfl, rfl⟩ := H
    go_enter Try.func41, Try.ntmps41
    go_wp2_with (first | ((with_reducible refine gate_callee (f := 64) rfl ?_); refine goesL_ (some 13) rfl rfl Try.func64 (by kernel_rfl) rfl #[.slice A0 l0.length c0] rfl (by (try simp only [List.map_toArray, List.map_cons, List.map_nil]); first | done | rfl | (simp only [List.length_drop, List.length_take]; rfl)) ?_; (with_reducible refine (impl_boxesCode.calls k _ _ l0 t419 _ ?side1 ?side2 A3.out).mono ?_); (case side1 => repeat (first | exact HR0.out | (with_reducible refine Kd.C_alloc ?_ _) | (with_reducible refine Kd.C_drewN ?_ _) | (with_reducible refine Kd.C_drew ?_))); (case side2 => exact HC0.out); rintro e w24 ⟨rfl, hb⟩; refine ⟨_, rfl, ?_⟩; have n0_ := Aside0.mk (below_step (by repeat (first | (with_reducible first | exact HB.out | apply below_alloc | apply pw_below_drewN | apply below_drew1) | exact HB.out)) hb); clear HB; have HB := n0_; clear n0_; (try clear hb); (try clear hb2); (try clear hk); (try clear hi)))
    go_ret2
    exact ⟨_, by first | rfl | (simp [errW_none, errW_some] <;> rfl) | (simp [*, errW_none, errW_some] <;> rfl), by first | exact Kd.R_nil _ _ _ _ _ | exact Kd.N_nil _ _ _ _ _ | exact Kd.V_nil _ _ _ _ _ | exact Kd.Q_nil _ _ _ _ _ | exact Kd.S_nil _ _ _ _ _, by repeat (first | (with_reducible first | exact HB.out | apply below_alloc | apply pw_below_drewN | apply below_drew1) | exact HB.out)⟩

end Go.Proofs.Ytmbbkaoccmokeaa.P

namespace Go.Proofs.Ytmbbkaoccmokeaa.P
open Go.RowKit Go.Proofs.YtmbbkaoccmokeaaW.PrintWords Go.Proofs.YtmbbkaoccmokeaaW.PrintLast Go.Proofs.YtmbbkaoccmokeaaW.PrintMore
attribute [local go_sem] max2_int min2_int max_two min_two max_three min_three max_four min_four   -- for this text's walks alone
set_option linter.unusedVariables false
set_option linter.unusedSimpArgs false

/-! ### impl_LeastCut: function 37 -/
def impl_LeastCut.f (k : Nat) (a0_0 : Int) (a0_1 : Int) (a0_2 : Int) (a1 : Int) : Option (Int × Int) := (impl_CutsFor.f k (([(⟨a0_0, a0_1, a0_2⟩ : S26)] : List (S26))) a1).bind fun bt435 => (if bt435.2 = 0 then (if 0 < (bt435.1.length : Int) then (some (rd bt435.1 0, 0)) else (none)) else (some (0, bt435.2)))
theorem impl_LeastCut.mono : ∀ a0 a1 a2 a3 k, LeO (impl_LeastCut.f k a0 a1 a2 a3) (impl_LeastCut.f (k + 1) a0 a1 a2 a3) := by
  intro a0 a1 a2 a3 k
  unfold impl_LeastCut.f
  repeat' first
      | (with_reducible exact impl_CutsFor.mono _ _ _)
      | (with_reducible exact LeO.refl _)
      | (with_reducible exact LeO.none _)
      | (with_reducible refine LeO.ite ?_ ?_)
      | (with_reducible refine LeO.bind ?_ (fun _ => ?_))
      | exact impl_CutsFor.mono _ _ _
      | exact LeO.none _
      | refine LeO.ite ?_ ?_
      | refine LeO.bind ?_ (fun _ => ?_)
set_option maxHeartbeats 8000000 in
set_option maxRecDepth 100000 in
theorem impl_LeastCut.calls (k : Nat) (a0_0 : Int) (a0_1 : Int) (a0_2 : Int) (a1 : Int) (r1 : Int) (r2 : Int) (w : World) (h : impl_LeastCut.f k a0_0 a0_1 a0_2 a1 = some (r1, r2)) :
    Calls Try.prog 37 #[.agg #[.int .i8 a0_0, .int .i8 a0_1, .int .i8 a0_2], .int .i64 a1] w fun e w' => e = .returned (.tuple #[.int .i64 r1, .int .i64 r2]) ∧ Below w.heap.size w w' := by
  have hu26 := Try.underlying26
  have HB := Aside0.mk (Below.refl w.heap.size w)
  have H : ((impl_CutsFor.f k (([(⟨a0_0, a0_1, a0_2⟩ : S26)] : List (S26))) a1).bind fun bt435 => (if bt435.2 = 0 then (if 0 < (bt435.1.length : Int) then (some (rd bt435.1 0, 0)) else (none)) else (some (0, bt435.2)))) = some (r1, r2) := h
  clear h
  obtain ⟨y432, hy432⟩ : ∃ y_ : List (S26), y_ = (([(⟨a0_0, a0_1, a0_2⟩ : S26)] : List (S26))) := ⟨_, rfl⟩
  replace H : ((impl_CutsFor.f k y432 a1).bind fun bt435 => (if bt435.2 = 0 then (if 0 < (bt435.1.length : Int) then (some (rd bt435.1 0, 0)) else (none)) else (some (0, bt435.2)))) = some (r1, r2) := by first | (rw [hy432]; with_reducible exact H) | (have H2_ := (Option.bind_some _ _).symm.trans H; rw [hy432]; with_reducible exact H2_) | (have H2_ := (Option.bind_some _ _).symm.trans H; with_reducible exact H2_) | with_reducible exact H | (rw [hy432]; exact H) | exact H
  have Ny432 := Aside0.mk hy432
  clear hy432
  replace H := Option.bind_eq_some_iff.mp H
  obtain ⟨⟨t435, t436⟩, A30, H⟩ := H
  replace H : (if t436 = 0 then (if 0 < (t435.length : Int) then (some (rd t435 0, 0)) else (none)) else (some (0, t436))) = some (r1, r2) := H
  have A3 := Aside0.mk A30
  clear A30
  by_cases c4 : t436 = 0
  · rw [if_pos c4] at H
    have c4b0 : (t436 == 0) = true := beq_iff_eq.mpr c4
    have c4b1 : (t436 != 0) = false := bne_eq_false_iff_eq.mpr c4
    clear c4
    by_cases c5 : 0 < (t435.length : Int)
    · rw [if_pos c5] at H
      have c5b0 : decide (0 < (t435.length : Int)) = true := decide_eq_true c5
      have c5b1 : decide (0 < t435.length) = true := decide_eq_true (by omega)
      clear c5
      simp only [Option.some.injEq, Prod.mk.injEq] at H
      obtain ⟨rfl, rfl⟩ := H
      go_enter Try.func37, Try.ntmps37
      go_wp2_with (first | ((with_reducible refine gate_dst (N := 2) rfl ?_); refine box_event ?hg (N := 2) ?hd (cs := #[.int .i8 a0_0, .int .i8 a0_1, .int .i8 a0_2]) (t := 26) ?hr ?_; (case hd => rfl); (case hg => rfl); (case hr => first | (go_simp; done) | (go_simp; rfl)); intro gb431 hg w6 hbox hb; have n0_ := Aside0.mk (below_step (by repeat (first | (with_reducible first | exact HB.out | apply below_alloc | apply pw_below_drewN | apply below_drew1) | exact HB.out)) hb); have n1_ := Aside0.mk (hbox); have n2_ := Aside0.mk ((by rw [hg]; exact (below_size (by repeat (first | (with_reducible first | exact HB.out | apply below_alloc | apply pw_below_drewN | apply below_drew1) | exact HB.out))) : w.heap.size ≤ gb431)); have n3_ := Aside0.mk ((by rw [hg]; exact (below_size (by repeat (first | (with_reducible first | exact HB.out | apply below_alloc | apply pw_below_drewN | apply below_drew1) | exact HB.out))) : w.heap.size ≤ gb431)); clear HB; have HB := n0_; have BK431 := n1_; have GW431 := n2_; have GE431 := n3_; clear n0_ n1_ n2_ n3_; clear hb hbox hg; have hcz7_0 : w6.cell? ⟨gb431, 0, none⟩ = some (.int .i8 a0_0) := (blk_cell BK431.out 0).trans rfl; have hcz7_1 : w6.cell? ⟨gb431, 1, none⟩ = some (.int .i8 a0_1) := (blk_cell BK431.out 1).trans rfl; have hcz7_2 : w6.cell? ⟨gb431, 2, none⟩ = some (.int .i8 a0_2) := (blk_cell BK431.out 2).trans rfl; have hfz7_0 := blk_frozen BK431.out 0; have hfz7_1 := blk_frozen BK431.out 1; have hfz7_2 := blk_frozen BK431.out 2) | ((with_reducible refine gate_dst (N := 10) rfl ?_); refine Kd.R_lit k26 _ 26 ?hg (N := 10) ?hd (xs := ([(⟨a0_0, a0_1, a0_2⟩ : S26)] : List (S26))) (inner := [.int .i8 a0_0, .int .i8 a0_1, .int .i8 a0_2]) (ok := fun _ => True) (okp := fun _ => True) ?hr ?hp (fun _ hk => hk) trivial (Below.refl _ _) (Nat.le_refl _) (by simp) ?_; (case hd => rfl); (case hg => rfl); (case hr => first | (go_simp; done) | (go_simp; rfl)); (case hp => exact (Reps.c3 (show Kd.M k26 _ _ _ (⟨a0_0, a0_1, a0_2⟩ : S26) [.int .i8 a0_0, .int .i8 a0_1, .int .i8 a0_2] from (k26_mkM _ _ _ (⟨a0_0, a0_1, a0_2⟩ : S26) )) (Reps.none _ _))); intro v433 w8 ho9 hb hg_ hnew_; clear hg_ hnew_; (first | rw [← Ny432.out] at ho9 | (simp only [Int.reduceToNat] at ho9; rw [← Ny432.out] at ho9)); have n0_ := Aside0.mk (Kd.R_lower (Kd.R_newB ho9 (g := gb431) (o := .cells #[.int .i8 a0_0, .int .i8 a0_1, .int .i8 a0_2] 26 (0, 0)) (by (with_reducible repeat (first | refine blk_drewN ?_ _ | refine blk_drew ?_ | refine blk_alloc ?_ _)); exact BK431.out)) (below_size (by repeat (first | (with_reducible first | exact HB.out | apply below_alloc | apply pw_below_drewN | apply below_drew1 | refine below_set ?_ GE431.out) | exact HB.out)))); have n1_ := Aside0.mk (blk_below (g := gb431) (o := .cells #[.int .i8 a0_0, .int .i8 a0_1, .int .i8 a0_2] 26 (0, 0)) (by (with_reducible repeat (first | refine blk_drewN ?_ _ | refine blk_drew ?_ | refine blk_alloc ?_ _)); exact BK431.out) hb); have n2_ := Aside0.mk (below_step (by repeat (first | (with_reducible first | exact HB.out | apply below_alloc | apply pw_below_drewN | apply below_drew1 | refine below_set ?_ GE431.out) | exact HB.out)) hb); clear BK431; clear HB; have HO434 := n0_; have BK431 := n1_; have HB := n2_; clear n0_ n1_ n2_; clear hb ho9; obtain ⟨Ao10, co10, eo10⟩ := Kd.R_slice HO434.out; subst eo10) | ((with_reducible refine gate_callee (f := 41) rfl ?_); refine goesL_ (some 12) rfl rfl Try.func41 (by kernel_rfl) rfl #[.slice Ao10 y432.length co10, .int .i64 a1] rfl (by (try simp only [List.map_toArray, List.map_cons, List.map_nil]); first | done | rfl | (simp only [List.length_drop, List.length_take]; rfl)) ?_; (with_reducible refine (impl_CutsFor.calls k _ _ y432 a1 t435 t436 _ ?side1 ?side2 A3.out).mono ?_); (case side1 => repeat (first | exact (Kd.R_reads' HO434.out).2.2 | (with_reducible refine Kd.C_alloc ?_ _) | (with_reducible refine Kd.C_drewN ?_ _) | (with_reducible refine Kd.C_drew ?_))); (case side2 => exact (Kd.R_reads' HO434.out).2.1); rintro e w11 ⟨v437, rfl, ho0, hb⟩; refine ⟨_, rfl, ?_⟩; have n0_ := Aside0.mk (Kd.R_below (by (with_reducible repeat (first | apply Kd.R_alloc | apply Kd.R_drewN | apply Kd.R_drew)); exact HO434.out) hb); have n1_ := Aside0.mk (Kd.R_lower ho0 (below_size (by repeat (first | (with_reducible first | exact HB.out | apply below_alloc | apply pw_below_drewN | apply below_drew1 | refine below_set ?_ GE431.out) | exact HB.out)))); have n2_ := Aside0.mk (blk_below (g := gb431) (o := .cells #[.int .i8 a0_0, .int .i8 a0_1, .int .i8 a0_2] 26 (0, 0)) (by (with_reducible repeat (first | refine blk_drewN ?_ _ | refine blk_drew ?_ | refine blk_alloc ?_ _)); exact BK431.out) hb); have n3_ := Aside0.mk (below_step (by repeat (first | (with_reducible first | exact HB.out | apply below_alloc | apply pw_below_drewN | apply below_drew1 | refine below_set ?_ GE431.out) | exact HB.out)) hb); clear HO434; clear BK431; clear HB; have HO434 := n0_; have HO438 := n1_; have BK431 := n2_; have HB := n3_; clear n0_ n1_ n2_ n3_; (try clear hb); (try clear hb2); (try clear hk); (try clear hi); (try clear ho0); obtain ⟨Ao12, co12, eo12⟩ := Kd.R_slice HO438.out; subst eo12; have p439 : 0 ≤ (0 : Int) := (by omega); have q439 : 0 < (t435.length : Int) := of_decide_eq_true (by first | (with_reducible assumption) | assumption); obtain ⟨ad439, e439, hx439_0⟩ := Kd.at_int (Kd.R_reads' HO438.out).2.2 0 p439 q439; cases e439; have qi439 : (0 < t435.length) = True := eq_true (by omega); (try rw [show ((0 : Int)).toNat = 0 from rfl] at hx439_0); (try rw [Addr.add_zero'] at hx439_0); replace p439 := eq_true p439; replace q439 := eq_true q439))
      go_ret2
      exact ⟨by first | rfl | (simp [errW_none, errW_some] <;> rfl) | (simp [*, errW_none, errW_some] <;> rfl), by repeat (first | (with_reducible first | exact HB.out | apply below_alloc | apply pw_below_drewN | apply below_drew1 | refine below_set ?_ GE431.out) | exact HB.out)⟩
    · rw [if_neg c5] at H
      exact absurd H (by simp)
  · rw [if_neg c4] at H
    have c4b0 : (t436 == 0) = false := beq_eq_false_iff_ne.mpr c4
    have c4b1 : (t436 != 0) = true := bne_iff_ne.mpr c4
    simp only [Option.some.injEq, Prod.mk.injEq] at H
    obtain ⟨rfl, rfl⟩ := H
    go_enter Try.func37, Try.ntmps37
    go_wp2_with (first | ((with_reducible refine gate_dst (N := 2) rfl ?_); refine box_event ?hg (N := 2) ?hd (cs := #[.int .i8 a0_0, .int .i8 a0_1, .int .i8 a0_2]) (t := 26) ?hr ?_; (case hd => rfl); (case hg => rfl); (case hr => first | (go_simp; done) | (go_simp; rfl)); intro gb431 hg w13 hbox hb; have n0_ := Aside0.mk (below_step (by repeat (first | (with_reducible first | exact HB.out | apply below_alloc | apply pw_below_drewN | apply below_drew1) | exact HB.out)) hb); have n1_ := Aside0.mk (hbox); have n2_ := Aside0.mk ((by rw [hg]; exact (below_size (by repeat (first | (with_reducible first | exact HB.out | apply below_alloc | apply pw_below_drewN | apply below_drew1) | exact HB.out))) : w.heap.size ≤ gb431)); have n3_ := Aside0.mk ((by rw [hg]; exact (below_size (by repeat (first | (with_reducible first | exact HB.out | apply below_alloc | apply pw_below_drewN | apply below_drew1) | exact HB.out))) : w.heap.size ≤ gb431)); clear HB; have HB := n0_; have BK431 := n1_; have GW431 := n2_; have GE431 := n3_; clear n0_ n1_ n2_ n3_; clear hb hbox hg; have hcz14_0 : w13.cell? ⟨gb431, 0, none⟩ = some (.int .i8 a0_0) := (blk_cell BK431.out 0).trans rfl; have hcz14_1 : w13.cell? ⟨gb431, 1, none⟩ = some (.int .i8 a0_1) := (blk_cell BK431.out 1).trans rfl; have hcz14_2 : w13.cell? ⟨gb431, 2, none⟩ = some (.int .i8 a0_2) := (blk_cell BK431.out 2).trans rfl; have hfz14_0 := blk_frozen BK431.out 0; have hfz14_1 := blk_frozen BK431.out 1; have hfz14_2 := blk_frozen BK431.out 2) | ((with_reducible refine gate_dst (N := 10) rfl ?_); refine Kd.R_lit k26 _ 26 ?hg (N := 10) ?hd (xs := ([(⟨a0_0, a0_1, a0_2⟩ : S26)] : List (S26))) (inner := [.int .i8 a0_0, .int .i8 a0_1, .int .i8 a0_2]) (ok := fun _ => True) (okp := fun _ => True) ?hr ?hp (fun _ hk => hk) trivial (Below.refl _ _) (Nat.le_refl _) (by simp) ?_; (case hd => rfl); (case hg => rfl); (case hr => first | (go_simp; done) | (go_simp; rfl)); (case hp => exact (Reps.c3 (show Kd.M k26 _ _ _ (⟨a0_0, a0_1, a0_2⟩ : S26) [.int .i8 a0_0, .int .i8 a0_1, .int .i8 a0_2] from (k26_mkM _ _ _ (⟨a0_0, a0_1, a0_2⟩ : S26) )) (Reps.none _ _))); intro v433 w15 ho16 hb hg_ hnew_; clear hg_ hnew_; (first | rw [← Ny432.out] at ho16 | (simp only [Int.reduceToNat] at ho16; rw [← Ny432.out] at ho16)); have n0_ := Aside0.mk (Kd.R_lower (Kd.R_newB ho16 (g := gb431) (o := .cells #[.int .i8 a0_0, .int .i8 a0_1, .int .i8 a0_2] 26 (0, 0)) (by (with_reducible repeat (first | refine blk_drewN ?_ _ | refine blk_drew ?_ | refine blk_alloc ?_ _)); exact BK431.out)) (below_size (by repeat (first | (with_reducible first | exact HB.out | apply below_alloc | apply pw_below_drewN | apply below_drew1 | refine below_set ?_ GE431.out) | exact HB.out)))); have n1_ := Aside0.mk (blk_below (g := gb431) (o := .cells #[.int .i8 a0_0, .int .i8 a0_1, .int .i8 a0_2] 26 (0, 0)) (by (with_reducible repeat (first | refine blk_drewN ?_ _ | refine blk_drew ?_ | refine blk_alloc ?_ _)); exact BK431.out) hb); have n2_ := Aside0.mk (below_step (by repeat (first | (with_reducible first | exact HB.out | apply below_alloc | apply pw_below_drewN | apply below_drew1 | refine below_set ?_ GE431.out) | exact HB.out)) hb); clear BK431; clear HB; have HO434 := n0_; have BK431 := n1_; have HB := n2_; clear n0_ n1_ n2_; clear hb ho16; obtain ⟨Ao17, co17, eo17⟩ := Kd.R_slice HO434.out; subst eo17) | ((with_reducible refine gate_callee (f := 41) rfl ?_); refine goesL_ (some 12) rfl rfl Try.func41 (by kernel_rfl) rfl #[.slice Ao17 y432.length co17, .int .i64 a1] rfl (by (try simp only [List.map_toArray, List.map_cons, List.map_nil]); first | done | rfl | (simp only [List.length_drop, List.length_take]; rfl)) ?_; (with_reducible refine (impl_CutsFor.calls k _ _ y432 a1 t435 t436 _ ?side1 ?side2 A3.out).mono ?_); (case side1 => repeat (first | exact (Kd.R_reads' HO434.out).2.2 | (with_reducible refine Kd.C_alloc ?_ _) | (with_reducible refine Kd.C_drewN ?_ _) | (with_reducible refine Kd.C_drew ?_))); (case side2 => exact (Kd.R_reads' HO434.out).2.1); rintro e w18 ⟨v437, rfl, ho0, hb⟩; refine ⟨_, rfl, ?_⟩; have n0_ := Aside0.mk (Kd.R_below (by (with_reducible repeat (first | apply Kd.R_alloc | apply Kd.R_drewN | apply Kd.R_drew)); exact HO434.out) hb); have n1_ := Aside0.mk (Kd.R_lower ho0 (below_size (by repeat (first | (with_reducible first | exact HB.out | apply below_alloc | apply pw_below_drewN | apply below_drew1 | refine below_set ?_ GE431.out) | exact HB.out)))); have n2_ := Aside0.mk (blk_below (g := gb431) (o := .cells #[.int .i8 a0_0, .int .i8 a0_1, .int .i8 a0_2] 26 (0, 0)) (by (with_reducible repeat (first | refine blk_drewN ?_ _ | refine blk_drew ?_ | refine blk_alloc ?_ _)); exact BK431.out) hb); have n3_ := Aside0.mk (below_step (by repeat (first | (with_reducible first | exact HB.out | apply below_alloc | apply pw_below_drewN | apply below_drew1 | refine below_set ?_ GE431.out) | exact HB.out)) hb); clear HO434; clear BK431; clear HB; have HO434 := n0_; have HO438 := n1_; have BK431 := n2_; have HB := n3_; clear n0_ n1_ n2_ n3_; (try clear hb); (try clear hb2); (try clear hk); (try clear hi); (try clear ho0)))
    go_ret2
    exact ⟨by first | rfl | (simp [errW_none, errW_some] <;> rfl) | (simp [*, errW_none, errW_some] <;> rfl), by repeat (first | (with_reducible first | exact HB.out | apply below_alloc | apply pw_below_drewN | apply below_drew1 | refine below_set ?_ GE431.out) | exact HB.out)⟩

end Go.Proofs.Ytmbbkaoccmokeaa.P

namespace Go.Proofs.Ytmbbkaoccmokeaa.P
open Go.RowKit Go.Proofs.YtmbbkaoccmokeaaW.PrintWords Go.Proofs.YtmbbkaoccmokeaaW.PrintLast Go.Proofs.YtmbbkaoccmokeaaW.PrintMore
attribute [local go_sem] max2_int min2_int max_two min_two max_three min_three max_four min_four   -- for this text's walks alone
set_option linter.unusedVariables false
set_option linter.unusedSimpArgs false

/-! ### laws_FnExactLeastCut: function 11 -/
def laws_FnExactLeastCut.f (k : Nat) (a0_0 : Int) (a0_1 : Int) (a0_2 : Int) (a1 : Int) : Option (Bool) := (laws_toBox.f a0_0 a0_1 a0_2).bind fun bt441 => ((spec_LeastCut.f k bt441.1 bt441.2.1 bt441.2.2 a1).bind fun bt444 => ((laws_toBox.f a0_0 a0_1 a0_2).bind fun bt446 => ((impl_LeastCut.f k bt446.1 bt446.2.1 bt446.2.2 a1).bind fun bt449 => (if bt449.1 = bt444.1 then (if bt449.2 = bt444.2 then (some true) else (some false)) else (some false)))))
theorem laws_FnExactLeastCut.mono : ∀ a0 a1 a2 a3 k, LeO (laws_FnExactLeastCut.f k a0 a1 a2 a3) (laws_FnExactLeastCut.f (k + 1) a0 a1 a2 a3) := by
  intro a0 a1 a2 a3 k
  unfold laws_FnExactLeastCut.f
  repeat' first
      | (with_reducible exact impl_LeastCut.mono _ _ _ _ _)
      | (with_reducible exact spec_LeastCut.mono _ _ _ _ _)
      | (with_reducible exact LeO.refl _)
      | (with_reducible exact LeO.none _)
      | (with_reducible refine LeO.ite ?_ ?_)
      | (with_reducible refine LeO.bind ?_ (fun _ => ?_))
      | exact impl_LeastCut.mono _ _ _ _ _
      | exact spec_LeastCut.mono _ _ _ _ _
      | exact LeO.none _
      | refine LeO.ite ?_ ?_
      | refine LeO.bind ?_ (fun _ => ?_)
set_option maxHeartbeats 8000000 in
set_option maxRecDepth 100000 in
theorem laws_FnExactLeastCut.calls (k : Nat) (a0_0 : Int) (a0_1 : Int) (a0_2 : Int) (a1 : Int) (r : Bool) (w : World) (h : laws_FnExactLeastCut.f k a0_0 a0_1 a0_2 a1 = some r) :
    Calls Try.prog 11 #[.agg #[.int .i8 a0_0, .int .i8 a0_1, .int .i8 a0_2], .int .i64 a1] w fun e w' => e = .returned (.bool r) ∧ Below w.heap.size w w' := by
  have hu24 := Try.underlying24
  have HB := Aside0.mk (Below.refl w.heap.size w)
  have H : ((laws_toBox.f a0_0 a0_1 a0_2).bind fun bt441 => ((spec_LeastCut.f k bt441.1 bt441.2.1 bt441.2.2 a1).bind fun bt444 => ((laws_toBox.f a0_0 a0_1 a0_2).bind fun bt446 => ((impl_LeastCut.f k bt446.1 bt446.2.1 bt446.2.2 a1).bind fun bt449 => (if bt449.1 = bt444.1 then (if bt449.2 = bt444.2 then (some true) else (some false)) else (some false)))))) = some r := h
  clear h
  replace H := Option.bind_eq_some_iff.mp H
  obtain ⟨⟨t441, t442, t443⟩, A30, H⟩ := H
  replace H : ((spec_LeastCut.f k t441 t442 t443 a1).bind fun bt444 => ((laws_toBox.f a0_0 a0_1 a0_2).bind fun bt446 => ((impl_LeastCut.f k bt446.1 bt446.2.1 bt446.2.2 a1).bind fun bt449 => (if bt449.1 = bt444.1 then (if bt449.2 = bt444.2 then (some true) else (some false)) else (some false))))) = some r := H
  have A3 := Aside0.mk A30
  clear A30
  replace H := Option.bind_eq_some_iff.mp H
  obtain ⟨⟨t444, t445⟩, A40, H⟩ := H
  replace H : ((laws_toBox.f a0_0 a0_1 a0_2).bind fun bt446 => ((impl_LeastCut.f k bt446.1 bt446.2.1 bt446.2.2 a1).bind fun bt449 => (if bt449.1 = t444 then (if bt449.2 = t445 then (some true) else (some false)) else (some false)))) = some r := H
  have A4 := Aside0.mk A40
  clear A40
  replace H := Option.bind_eq_some_iff.mp H
  obtain ⟨⟨t446, t447, t448⟩, A50, H⟩ := H
  replace H : ((impl_LeastCut.f k t446 t447 t448 a1).bind fun bt449 => (if bt449.1 = t444 then (if bt449.2 = t445 then (some true) else (some false)) else (some false))) = some r := H
  have A5 := Aside0.mk A50
  clear A50
  replace H := Option.bind_eq_some_iff.mp H
  obtain ⟨⟨t449, t450⟩, A60, H⟩ := H
  replace H : (if t449 = t444 then (if t450 = t445 then (some true) else (some false)) else (some false)) = some r := H
  have A6 := Aside0.mk A60
  clear A60
  by_cases c7 : t449 = t444
  · rw [if_pos c7] at H
    have c7b0 : (t449 == t444) = true := beq_iff_eq.mpr c7
    have c7b1 : (t449 != t444) = false := bne_eq_false_iff_eq.mpr c7
    clear c7
    by_cases c8 : t450 = t445
    · rw [if_pos c8] at H
      have c8b0 : (t450 == t445) = true := beq_iff_eq.mpr c8
      have c8b1 : (t450 != t445) = false := bne_eq_false_iff_eq.mpr c8
      clear c8
      obtain rfl := Option.some.inj H
      go_enter Try.func11, Try.ntmps11
      go_wp2_with (first | ((with_reducible refine gate_dst (N := 2) rfl ?_); refine box_event ?hg (N := 2) ?hd (cs := #[.int .i8 a0_0, .int .i8 a0_1, .int .i8 a0_2]) (t := 24) ?hr ?_; (case hd => rfl); (case hg => rfl); (case hr => first | (go_simp; done) | (go_simp; rfl)); intro gb440 hg w9 hbox hb; have n0_ := Aside0.mk (below_step (by repeat (first | (with_reducible first | exact HB.out | apply below_alloc | apply pw_below_drewN | apply below_drew1) | exact HB.out)) hb); have n1_ := Aside0.mk (hbox); have n2_ := Aside0.mk ((by rw [hg]; exact (below_size (by repeat (first | (with_reducible first | exact HB.out | apply below_alloc | apply pw_below_drewN | apply below_drew1) | exact HB.out))) : w.heap.size ≤ gb440)); have n3_ := Aside0.mk ((by rw [hg]; exact (below_size (by repeat (first | (with_reducible first | exact HB.out | apply below_alloc | apply pw_below_drewN | apply below_drew1) | exact HB.out))) : w.heap.size ≤ gb440)); clear HB; have HB := n0_; have BK440 := n1_; have GW440 := n2_; have GE440 := n3_; clear n0_ n1_ n2_ n3_; clear hb hbox hg; have hcz10_0 : w9.cell? ⟨gb440, 0, none⟩ = some (.int .i8 a0_0) := (blk_cell BK440.out 0).trans rfl; have hcz10_1 : w9.cell? ⟨gb440, 1, none⟩ = some (.int .i8 a0_1) := (blk_cell BK440.out 1).trans rfl; have hcz10_2 : w9.cell? ⟨gb440, 2, none⟩ = some (.int .i8 a0_2) := (blk_cell BK440.out 2).trans rfl; have hfz10_0 := blk_frozen BK440.out 0; have hfz10_1 := blk_frozen BK440.out 1; have hfz10_2 := blk_frozen BK440.out 2) | ((with_reducible refine gate_callee (f := 16) rfl ?_); refine goesL_ (some 11) rfl rfl Try.func16 (by kernel_rfl) rfl #[.agg #[.int .i8 a0_0, .int .i8 a0_1, .int .i8 a0_2]] rfl (by (try simp only [List.map_toArray, List.map_cons, List.map_nil]); first | done | rfl | (simp only [List.length_drop, List.length_take]; rfl)) ?_; (with_reducible refine (laws_toBox.calls a0_0 a0_1 a0_2 t441 t442 t443 _ A3.out).mono ?_); rintro e w11 ⟨rfl, hb⟩; refine ⟨_, rfl, ?_⟩; have n0_ := Aside0.mk (blk_below (g := gb440) (o := .cells #[.int .i8 a0_0, .int .i8 a0_1, .int .i8 a0_2] 24 (0, 0)) (by (with_reducible repeat (first | refine blk_drewN ?_ _ | refine blk_drew ?_ | refine blk_alloc ?_ _)); exact BK440.out) hb); have n1_ := Aside0.mk (below_step (by repeat (first | (with_reducible first | exact HB.out | apply below_alloc | apply pw_below_drewN | apply below_drew1 | refine below_set ?_ GE440.out) | exact HB.out)) hb); clear BK440; clear HB; have BK440 := n0_; have HB := n1_; clear n0_ n1_; (try clear hb); (try clear hb2); (try clear hk); (try clear hi)) | ((with_reducible refine gate_callee (f := 36) rfl ?_); refine goesL_ (some 13) rfl rfl Try.func36 (by kernel_rfl) rfl #[.agg #[.int .i8 t441, .int .i8 t442, .int .i8 t443], .int .i64 a1] rfl (by (try simp only [List.map_toArray, List.map_cons, List.map_nil]); first | done | rfl | (simp only [List.length_drop, List.length_take]; rfl)) ?_; (with_reducible refine (spec_LeastCut.calls k t441 t442 t443 a1 t444 t445 _ A4.out).mono ?_); rintro e w12 ⟨rfl, hb⟩; refine ⟨_, rfl, ?_⟩; have n0_ := Aside0.mk (blk_below (g := gb440) (o := .cells #[.int .i8 a0_0, .int .i8 a0_1, .int .i8 a0_2] 24 (0, 0)) (by (with_reducible repeat (first | refine blk_drewN ?_ _ | refine blk_drew ?_ | refine blk_alloc ?_ _)); exact BK440.out) hb); have n1_ := Aside0.mk (below_step (by repeat (first | (with_reducible first | exact HB.out | apply below_alloc | apply pw_below_drewN | apply below_drew1 | refine below_set ?_ GE440.out) | exact HB.out)) hb); clear BK440; clear HB; have BK440 := n0_; have HB := n1_; clear n0_ n1_; (try clear hb); (try clear hb2); (try clear hk); (try clear hi); have hcz13_0 : w12.cell? ⟨gb440, 0, none⟩ = some (.int .i8 a0_0) := (blk_cell BK440.out 0).trans rfl; have hcz13_1 : w12.cell? ⟨gb440, 1, none⟩ = some (.int .i8 a0_1) := (blk_cell BK440.out 1).trans rfl; have hcz13_2 : w12.cell? ⟨gb440, 2, none⟩ = some (.int .i8 a0_2) := (blk_cell BK440.out 2).trans rfl; have hfz13_0 := blk_frozen BK440.out 0; have hfz13_1 := blk_frozen BK440.out 1; have hfz13_2 := blk_frozen BK440.out 2) | ((with_reducible refine gate_callee (f := 16) rfl ?_); refine goesL_ (some 18) rfl rfl Try.func16 (by kernel_rfl) rfl #[.agg #[.int .i8 a0_0, .int .i8 a0_1, .int .i8 a0_2]] rfl (by (try simp only [List.map_toArray, List.map_cons, List.map_nil]); first | done | rfl | (simp only [List.length_drop, List.length_take]; rfl)) ?_; (with_reducible refine (laws_toBox.calls a0_0 a0_1 a0_2 t446 t447 t448 _ A5.out).mono ?_); rintro e w14 ⟨rfl, hb⟩; refine ⟨_, rfl, ?_⟩; have n0_ := Aside0.mk (blk_below (g := gb440) (o := .cells #[.int .i8 a0_0, .int .i8 a0_1, .int .i8 a0_2] 24 (0, 0)) (by (with_reducible repeat (first | refine blk_drewN ?_ _ | refine blk_drew ?_ | refine blk_alloc ?_ _)); exact BK440.out) hb); have n1_ := Aside0.mk (below_step (by repeat (first | (with_reducible first | exact HB.out | apply below_alloc | apply pw_below_drewN | apply below_drew1 | refine below_set ?_ GE440.out) | exact HB.out)) hb); clear BK440; clear HB; have BK440 := n0_; have HB := n1_; clear n0_ n1_; (try clear hb); (try clear hb2); (try clear hk); (try clear hi)) | ((with_reducible refine gate_callee (f := 37) rfl ?_); refine goesL_ (some 20) rfl rfl Try.func37 (by kernel_rfl) rfl #[.agg #[.int .i8 t446, .int .i8 t447, .int .i8 t448], .int .i64 a1] rfl (by (try simp only [List.map_toArray, List.map_cons, List.map_nil]); first | done | rfl | (simp only [List.length_drop, List.length_take]; rfl)) ?_; (with_reducible refine (impl_LeastCut.calls k t446 t447 t448 a1 t449 t450 _ A6.out).mono ?_); rintro e w15 ⟨rfl, hb⟩; refine ⟨_, rfl, ?_⟩; have n0_ := Aside0.mk (blk_below (g := gb440) (o := .cells #[.int .i8 a0_0, .int .i8 a0_1, .int .i8 a0_2] 24 (0, 0)) (by (with_reducible repeat (first | refine blk_drewN ?_ _ | refine blk_drew ?_ | refine blk_alloc ?_ _)); exact BK440.out) hb); have n1_ := Aside0.mk (below_step (by repeat (first | (with_reducible first | exact HB.out | apply below_alloc | apply pw_below_drewN | apply below_drew1 | refine below_set ?_ GE440.out) | exact HB.out)) hb); clear BK440; clear HB; have BK440 := n0_; have HB := n1_; clear n0_ n1_; (try clear hb); (try clear hb2); (try clear hk); (try clear hi)))
      go_ret
      exact ⟨by first | rfl | (simp [errW_none, errW_some] <;> rfl) | (simp [*, errW_none, errW_some] <;> rfl), by repeat (first | (with_reducible first | exact HB.out | apply below_alloc | apply pw_below_drewN | apply below_drew1 | refine below_set ?_ GE440.out) | exact HB.out)⟩
    · rw [if_neg c8] at H
      have c8b0 : (t450 == t445) = false := beq_eq_false_iff_ne.mpr c8
      have c8b1 : (t450 != t445) = true := bne_iff_ne.mpr c8
      obtain rfl := Option.some.inj H
      go_enter Try.func11, Try.ntmps11
      go_wp2_with (first | ((with_reducible refine gate_dst (N := 2) rfl ?_); refine box_event ?hg (N := 2) ?hd (cs := #[.int .i8 a0_0, .int .i8 a0_1, .int .i8 a0_2]) (t := 24) ?hr ?_; (case hd => rfl); (case hg => rfl); (case hr => first | (go_simp; done) | (go_simp; rfl)); intro gb440 hg w16 hbox hb; have n0_ := Aside0.mk (below_step (by repeat (first | (with_reducible first | exact HB.out | apply below_alloc | apply pw_below_drewN | apply below_drew1) | exact HB.out)) hb); have n1_ := Aside0.mk (hbox); have n2_ := Aside0.mk ((by rw [hg]; exact (below_size (by repeat (first | (with_reducible first | exact HB.out | apply below_alloc | apply pw_below_drewN | apply below_drew1) | exact HB.out))) : w.heap.size ≤ gb440)); have n3_ := Aside0.mk ((by rw [hg]; exact (below_size (by repeat (first | (with_reducible first | exact HB.out | apply below_alloc | apply pw_below_drewN | apply below_drew1) | exact HB.out))) : w.heap.size ≤ gb440)); clear HB; have HB := n0_; have BK440 := n1_; have GW440 := n2_; have GE440 := n3_; clear n0_ n1_ n2_ n3_; clear hb hbox hg; have hcz17_0 : w16.cell? ⟨gb440, 0, none⟩ = some (.int .i8 a0_0) := (blk_cell BK440.out 0).trans rfl; have hcz17_1 : w16.cell? ⟨gb440, 1, none⟩ = some (.int .i8 a0_1) := (blk_cell BK440.out 1).trans rfl; have hcz17_2 : w16.cell? ⟨gb440, 2, none⟩ = some (.int .i8 a0_2) := (blk_cell BK440.out 2).trans rfl; have hfz17_0 := blk_frozen BK440.out 0; have hfz17_1 := blk_frozen BK440.out 1; have hfz17_2 := blk_frozen BK440.out 2) | ((with_reducible refine gate_callee (f := 16) rfl ?_); refine goesL_ (some 11) rfl rfl Try.func16 (by kernel_rfl) rfl #[.agg #[.int .i8 a0_0, .int .i8 a0_1, .int .i8 a0_2]] rfl (by (try simp only [List.map_toArray, List.map_cons, List.map_nil]); first | done | rfl | (simp only [List.length_drop, List.length_take]; rfl)) ?_; (with_reducible refine (laws_toBox.calls a0_0 a0_1 a0_2 t441 t442 t443 _ A3.out).mono ?_); rintro e w18 ⟨rfl, hb⟩; refine ⟨_, rfl, ?_⟩; have n0_ := Aside0.mk (blk_below (g := gb440) (o := .cells #[.int .i8 a0_0, .int .i8 a0_1, .int .i8 a0_2] 24 (0, 0)) (by (with_reducible repeat (first | refine blk_drewN ?_ _ | refine blk_drew ?_ | refine blk_alloc ?_ _)); exact BK440.out) hb); have n1_ := Aside0.mk (below_step (by repeat (first | (with_reducible first | exact HB.out | apply below_alloc | apply pw_below_drewN | apply below_drew1 | refine below_set ?_ GE440.out) | exact HB.out)) hb); clear BK440; clear HB; have BK440 := n0_; have HB := n1_; clear n0_ n1_; (try clear hb); (try clear hb2); (try clear hk); (try clear hi)) | ((with_reducible refine gate_callee (f := 36) rfl ?_); refine goesL_ (some 13) rfl rfl Try.func36 (by kernel_rfl) rfl #[.agg #[.int .i8 t441, .int .i8 t442, .int .i8 t443], .int .i64 a1] rfl (by (try simp only [List.map_toArray, List.map_cons, List.map_nil]); first | done | rfl | (simp only [List.length_drop, List.length_take]; rfl)) ?_; (with_reducible refine (spec_LeastCut.calls k t441 t442 t443 a1 t444 t445 _ A4.out).mono ?_); rintro e w19 ⟨rfl, hb⟩; refine ⟨_, rfl, ?_⟩; have n0_ := Aside0.mk (blk_below (g := gb440) (o := .cells #[.int .i8 a0_0, .int .i8 a0_1, .int .i8 a0_2] 24 (0, 0)) (by (with_reducible repeat (first | refine blk_drewN ?_ _ | refine blk_drew ?_ | refine blk_alloc ?_ _)); exact BK440.out) hb); have n1_ := Aside0.mk (below_step (by repeat (first | (with_reducible first | exact HB.out | apply below_alloc | apply pw_below_drewN | apply below_drew1 | refine below_set ?_ GE440.out) | exact HB.out)) hb); clear BK440; clear HB; have BK440 := n0_; have HB := n1_; clear n0_ n1_; (try clear hb); (try clear hb2); (try clear hk); (try clear hi); have hcz20_0 : w19.cell? ⟨gb440, 0, none⟩ = some (.int .i8 a0_0) := (blk_cell BK440.out 0).trans rfl; have hcz20_1 : w19.cell? ⟨gb440, 1, none⟩ = some (.int .i8 a0_1) := (blk_cell BK440.out 1).trans rfl; have hcz20_2 : w19.cell? ⟨gb440, 2, none⟩ = some (.int .i8 a0_2) := (blk_cell BK440.out 2).trans rfl; have hfz20_0 := blk_frozen BK440.out 0; have hfz20_1 := blk_frozen BK440.out 1; have hfz20_2 := blk_frozen BK440.out 2) | ((with_reducible refine gate_callee (f := 16) rfl ?_); refine goesL_ (some 18) rfl rfl Try.func16 (by kernel_rfl) rfl #[.agg #[.int .i8 a0_0, .int .i8 a0_1, .int .i8 a0_2]] rfl (by (try simp only [List.map_toArray, List.map_cons, List.map_nil]); first | done | rfl | (simp only [List.length_drop, List.length_take]; rfl)) ?_; (with_reducible refine (laws_toBox.calls a0_0 a0_1 a0_2 t446 t447 t448 _ A5.out).mono ?_); rintro e w21 ⟨rfl, hb⟩; refine ⟨_, rfl, ?_⟩; have n0_ := Aside0.mk (blk_below (g := gb440) (o := .cells #[.int .i8 a0_0, .int .i8 a0_1, .int .i8 a0_2] 24 (0, 0)) (by (with_reducible repeat (first | refine blk_drewN ?_ _ | refine blk_drew ?_ | refine blk_alloc ?_ _)); exact BK440.out) hb); have n1_ := Aside0.mk (below_step (by repeat (first | (with_reducible first | exact HB.out | apply below_alloc | apply pw_below_drewN | apply below_drew1 | refine below_set ?_ GE440.out) | exact HB.out)) hb); clear BK440; clear HB; have BK440 := n0_; have HB := n1_; clear n0_ n1_; (try clear hb); (try clear hb2); (try clear hk); (try clear hi)) | ((with_reducible refine gate_callee (f := 37) rfl ?_); refine goesL_ (some 20) rfl rfl Try.func37 (by kernel_rfl) rfl #[.agg #[.int .i8 t446, .int .i8 t447, .int .i8 t448], .int .i64 a1] rfl (by (try simp only [List.map_toArray, List.map_cons, List.map_nil]); first | done | rfl | (simp only [List.length_drop, List.length_take]; rfl)) ?_; (with_reducible refine (impl_LeastCut.calls k t446 t447 t448 a1 t449 t450 _ A6.out).mono ?_); rintro e w22 ⟨rfl, hb⟩; refine ⟨_, rfl, ?_⟩; have n0_ := Aside0.mk (blk_below (g := gb440) (o := .cells #[.int .i8 a0_0, .int .i8 a0_1, .int .i8 a0_2] 24 (0, 0)) (by (with_reducible repeat (first | refine blk_drewN ?_ _ | refine blk_drew ?_ | refine blk_alloc ?_ _)); exact BK440.out) hb); have n1_ := Aside0.mk (below_step (by repeat (first | (with_reducible first | exact HB.out | apply below_alloc | apply pw_below_drewN | apply below_drew1 | refine below_set ?_ GE440.out) | exact HB.out)) hb); clear BK440; clear HB; have BK440 := n0_; have HB := n1_; clear n0_ n1_; (try clear hb); (try clear hb2); (try clear hk); (try clear hi)))
      go_ret
      exact ⟨by first | rfl | (simp [errW_none, errW_some] <;> rfl) | (simp [*, errW_none, errW_some] <;> rfl), by repeat (first | (with_reducible first | exact HB.out | apply below_alloc | apply pw_below_drewN | apply below_drew1 | refine below_set ?_ GE440.out) | exact HB.out)⟩
  · rw [if_neg c7] at H
    have c7b0 : (t449 == t444) = false := beq_eq_false_iff_ne.mpr c7
    have c7b1 : (t449 != t444) = true := bne_iff_ne.mpr c7
    obtain rfl := Option.some.inj H
    go_enter Try.func11, Try.ntmps11
    go_wp2_with (first | ((with_reducible refine gate_dst (N := 2) rfl ?_); refine box_event ?hg (N := 2) ?hd (cs := #[.int .i8 a0_0, .int .i8 a0_1, .int .i8 a0_2]) (t := 24) ?hr ?_; (case hd => rfl); (case hg => rfl); (case hr => first | (go_simp; done) | (go_simp; rfl)); intro gb440 hg w23 hbox hb; have n0_ := Aside0.mk (below_step (by repeat (first | (with_reducible first | exact HB.out | apply below_alloc | apply pw_below_drewN | apply below_drew1) | exact HB.out)) hb); have n1_ := Aside0.mk (hbox); have n2_ := Aside0.mk ((by rw [hg]; exact (below_size (by repeat (first | (with_reducible first | exact HB.out | apply below_alloc | apply pw_below_drewN | apply below_drew1) | exact HB.out))) : w.heap.size ≤ gb440)); have n3_ := Aside0.mk ((by rw [hg]; exact (below_size (by repeat (first | (with_reducible first | exact HB.out | apply below_alloc | apply pw_below_drewN | apply below_drew1) | exact HB.out))) : w.heap.size ≤ gb440)); clear HB; have HB := n0_; have BK440 := n1_; have GW440 := n2_; have GE440 := n3_; clear n0_ n1_ n2_ n3_; clear hb hbox hg; have hcz24_0 : w23.cell? ⟨gb440, 0, none⟩ = some (.int .i8 a0_0) := (blk_cell BK440.out 0).trans rfl; have hcz24_1 : w23.cell? ⟨gb440, 1, none⟩ = some (.int .i8 a0_1) := (blk_cell BK440.out 1).trans rfl; have hcz24_2 : w23.cell? ⟨gb440, 2, none⟩ = some (.int .i8 a0_2) := (blk_cell BK440.out 2).trans rfl; have hfz24_0 := blk_frozen BK440.out 0; have hfz24_1 := blk_frozen BK440.out 1; have hfz24_2 := blk_frozen BK440.out 2) | ((with_reducible refine gate_callee (f := 16) rfl ?_); refine goesL_ (some 11) rfl rfl Try.func16 (by kernel_rfl) rfl #[.agg #[.int .i8 a0_0, .int .i8 a0_1, .int .i8 a0_2]] rfl (by (try simp only [List.map_toArray, List.map_cons, List.map_nil]); first | done | rfl | (simp only [List.length_drop, List.length_take]; rfl)) ?_; (with_reducible refine (laws_toBox.calls a0_0 a0_1 a0_2 t441 t442 t443 _ A3.out).mono ?_); rintro e w25 ⟨rfl, hb⟩; refine ⟨_, rfl, ?_⟩; have n0_ := Aside0.mk (blk_below (g := gb440) (o := .cells #[.int .i8 a0_0, .int .i8 a0_1, .int .i8 a0_2] 24 (0, 0)) (by (with_reducible repeat (first | refine blk_drewN ?_ _ | refine blk_drew ?_ | refine blk_alloc ?_ _)); exact BK440.out) hb); have n1_ := Aside0.mk (below_step (by repeat (first | (with_reducible first | exact HB.out | apply below_alloc | apply pw_below_drewN | apply below_drew1 | refine below_set ?_ GE440.out) | exact HB.out)) hb); clear BK440; clear HB; have BK440 := n0_; have HB := n1_; clear n0_ n1_; (try clear hb); (try clear hb2); (try clear hk); (try clear hi)) | ((with_reducible refine gate_callee (f := 36) rfl ?_); refine goesL_ (some 13) rfl rfl Try.func36 (by kernel_rfl) rfl #[.agg #[.int .i8 t441, .int .i8 t442, .int .i8 t443], .int .i64 a1] rfl (by (try simp only [List.map_toArray, List.map_cons, List.map_nil]); first | done | rfl | (simp only [List.length_drop, List.length_take]; rfl)) ?_; (with_reducible refine (spec_LeastCut.calls k t441 t442 t443 a1 t444 t445 _ A4.out).mono ?_); rintro e w26 ⟨rfl, hb⟩; refine ⟨_, rfl, ?_⟩; have n0_ := Aside0.mk (blk_below (g := gb440) (o := .cells #[.int .i8 a0_0, .int .i8 a0_1, .int .i8 a0_2] 24 (0, 0)) (by (with_reducible repeat (first | refine blk_drewN ?_ _ | refine blk_drew ?_ | refine blk_alloc ?_ _)); exact BK440.out) hb); have n1_ := Aside0.mk (below_step (by repeat (first | (with_reducible first | exact HB.out | apply below_alloc | apply pw_below_drewN | apply below_drew1 | refine below_set ?_ GE440.out) | exact HB.out)) hb); clear BK440; clear HB; have BK440 := n0_; have HB := n1_; clear n0_ n1_; (try clear hb); (try clear hb2); (try clear hk); (try clear hi); have hcz27_0 : w26.cell? ⟨gb440, 0, none⟩ = some (.int .i8 a0_0) := (blk_cell BK440.out 0).trans rfl; have hcz27_1 : w26.cell? ⟨gb440, 1, none⟩ = some (.int .i8 a0_1) := (blk_cell BK440.out 1).trans rfl; have hcz27_2 : w26.cell? ⟨gb440, 2, none⟩ = some (.int .i8 a0_2) := (blk_cell BK440.out 2).trans rfl; have hfz27_0 := blk_frozen BK440.out 0; have hfz27_1 := blk_frozen BK440.out 1; have hfz27_2 := blk_frozen BK440.out 2) | ((with_reducible refine gate_callee (f := 16) rfl ?_); refine goesL_ (some 18) rfl rfl Try.func16 (by kernel_rfl) rfl #[.agg #[.int .i8 a0_0, .int .i8 a0_1, .int .i8 a0_2]] rfl (by (try simp only [List.map_toArray, List.map_cons, List.map_nil]); first | done | rfl | (simp only [List.length_drop, List.length_take]; rfl)) ?_; (with_reducible refine (laws_toBox.calls a0_0 a0_1 a0_2 t446 t447 t448 _ A5.out).mono ?_); rintro e w28 ⟨rfl, hb⟩; refine ⟨_, rfl, ?_⟩; have n0_ := Aside0.mk (blk_below (g := gb440) (o := .cells #[.int .i8 a0_0, .int .i8 a0_1, .int .i8 a0_2] 24 (0, 0)) (by (with_reducible repeat (first | refine blk_drewN ?_ _ | refine blk_drew ?_ | refine blk_alloc ?_ _)); exact BK440.out) hb); have n1_ := Aside0.mk (below_step (by repeat (first | (with_reducible first | exact HB.out | apply below_alloc | apply pw_below_drewN | apply below_drew1 | refine below_set ?_ GE440.out) | exact HB.out)) hb); clear BK440; clear HB; have BK440 := n0_; have HB := n1_; clear n0_ n1_; (try clear hb); (try clear hb2); (try clear hk); (try clear hi)) | ((with_reducible refine gate_callee (f := 37) rfl ?_); refine goesL_ (some 20) rfl rfl Try.func37 (by kernel_rfl) rfl #[.agg #[.int .i8 t446, .int .i8 t447, .int .i8 t448], .int .i64 a1] rfl (by (try simp only [List.map_toArray, List.map_cons, List.map_nil]); first | done | rfl | (simp only [List.length_drop, List.length_take]; rfl)) ?_; (with_reducible refine (impl_LeastCut.calls k t446 t447 t448 a1 t449 t450 _ A6.out).mono ?_); rintro e w29 ⟨rfl, hb⟩; refine ⟨_, rfl, ?_⟩; have n0_ := Aside0.mk (blk_below (g := gb440) (o := .cells #[.int .i8 a0_0, .int .i8 a0_1, .int .i8 a0_2] 24 (0, 0)) (by (with_reducible repeat (first | refine blk_drewN ?_ _ | refine blk_drew ?_ | refine blk_alloc ?_ _)); exact BK440.out) hb); have n1_ := Aside0.mk (below_step (by repeat (first | (with_reducible first | exact HB.out | apply below_alloc | apply pw_below_drewN | apply below_drew1 | refine below_set ?_ GE440.out) | exact HB.out)) hb); clear BK440; clear HB; have BK440 := n0_; have HB := n1_; clear n0_ n1_; (try clear hb); (try clear hb2); (try clear hk); (try clear hi)))
    go_ret
    exact ⟨by first | rfl | (simp [errW_none, errW_some] <;> rfl) | (simp [*, errW_none, errW_some] <;> rfl), by repeat (first | (with_reducible first | exact HB.out | apply below_alloc | apply pw_below_drewN | apply below_drew1 | refine below_set ?_ GE440.out) | exact HB.out)⟩

end Go.Proofs.Ytmbbkaoccmokeaa.P

namespace Go.Proofs.Ytmbbkaoccmokeaa.P
open Go.RowKit Go.Proofs.YtmbbkaoccmokeaaW.PrintWords
/-- The pure statement of the law. -/
def laws_FnExactLeastCut.Pure : Prop := ∀ (x0 : S24) (x1 : Int), ((Lit.int .i8 x0.f0).wf = true ∧ (Lit.int .i8 x0.f1).wf = true ∧ (Lit.int .i8 x0.f2).wf = true) → (Lit.int .i64 x1).wf = true → ∃ k, laws_FnExactLeastCut.f k x0.f0 x0.f1 x0.f2 x1 = some true
end Go.Proofs.Ytmbbkaoccmokeaa.P

namespace Go.Proofs.Ytmbbkaoccmokeaa.Pure
open Go.RowKit Go.Proofs.Ytmbbkaoccmokeaa.P Go.Proofs.YtmbbkaoccmokeaaW.PrintWords Go.Proofs.YtmbbkaoccmokeaaW.PrintLast
set_option linter.unusedVariables false
set_option linter.unusedSimpArgs false

theorem EvG {α : Type} {g : Nat → Option α} {r : α} (h : Ev g r) : ∃ K, ∀ k, K ≤ k → g k = some r := h
theorem EvI {α : Type} {g : Nat → Option α} {r : α} (K : Nat) (h : ∀ k, K ≤ k → g k = some r) : Ev g r := ⟨K, h⟩
theorem w64 {x : Int} (h0 : -9223372036854775808 ≤ x) (h1 : x ≤ 9223372036854775807) : wrap64 x = x := by
  unfold wrap64; omega
theorem wN (i : Nat) (h : i < 4611686018427387904) : wrap64 ((i : Int) + 1) = ((i + 1 : Nat) : Int) := by
  unfold wrap64; omega
theorem rdN (l : List Int) (i : Nat) : rd l (i : Int) = l.getD i 0 := rfl
theorem rd_at (l : List Int) (i : Int) (n : Nat) (h : i = n) : rd l i = l.getD n 0 := by subst h; rfl
theorem getD_eq (l : List Int) (i : Nat) (h : i < l.length) : l.getD i 0 = l[i] := by
  rw [List.getD_eq_getElem?_getD, List.getElem?_eq_getElem h]; rfl
theorem getD_mem (l : List Int) (i : Nat) (h : i < l.length) : l.getD i 0 ∈ l := by rw [getD_eq l i h]; exact List.getElem_mem h
theorem list_ext (a b : List Int) (hl : a.length = b.length) (h : ∀ j, j < b.length → a.getD j 0 = b.getD j 0) : a = b := by
  apply List.ext_getElem hl
  intro i h1 h2
  have := h i h2
  rwa [getD_eq a i h1, getD_eq b i h2] at this
theorem getD_set (l : List Int) (i j : Nat) (v : Int) (h : i < l.length) : (l.set i v).getD j 0 = if i = j then v else l.getD j 0 := by
  simp only [List.getD_eq_getElem?_getD, List.getElem?_set]
  by_cases e : i = j
  · subst e; simp [h]
  · simp [e]
theorem getD_rep (n j : Nat) (v : Int) (h : j < n) : (List.replicate n v).getD j 0 = v := by
  simp [List.getD_eq_getElem?_getD, List.getElem?_replicate, h]

end Go.Proofs.Ytmbbkaoccmokeaa.Pure

namespace Go.Proofs.Ytmbbkaoccmokeaa.Pure
open Go.RowKit Go.Proofs.Ytmbbkaoccmokeaa.P Go.Proofs.YtmbbkaoccmokeaaW.PrintWords Go.Proofs.YtmbbkaoccmokeaaW.PrintLast
set_option linter.unusedVariables false
set_option linter.unusedSimpArgs false

theorem inF (a lo hi : Int) : spec_l00In.f a lo hi = some (decide (lo ≤ a) && decide (a ≤ hi)) := by
  unfold spec_l00In.f; by_cases h : lo ≤ a <;> simp [h]
theorem withinF (a lo hi : Int) : impl_within.f a lo hi = some (decide (lo ≤ a) && decide (a ≤ hi)) := by
  unfold impl_within.f; by_cases h : lo ≤ a <;> simp [h]
theorem w8 {a : Int} (w : (Lit.int .i8 a).wf = true) : wrap64 a = a := by
  obtain ⟨h0, h1⟩ := bounds_i8 w
  exact w64 (by omega) (by omega)
/-- A box is valid. -/
def okB (a b c : Int) : Bool := (decide (1 ≤ a) && decide (a ≤ 60)) && ((decide (1 ≤ b) && decide (b ≤ 60)) && (decide (1 ≤ c) && decide (c ≤ 60)))
theorem okB_iff {a b c : Int} : okB a b c = true ↔ (1 ≤ a ∧ a ≤ 60) ∧ (1 ≤ b ∧ b ≤ 60) ∧ (1 ≤ c ∧ c ≤ 60) := by
  simp [okB, and_assoc]
theorem specOk {a b c : Int} (wa : (Lit.int .i8 a).wf = true) (wb : (Lit.int .i8 b).wf = true) (wc : (Lit.int .i8 c).wf = true) : spec_l02Ok.f a b c = some (okB a b c) := by
  unfold spec_l02Ok.f okB
  rw [inF, inF, inF, w8 wa, w8 wb, w8 wc, Option.bind_some]
  cases (decide (1 ≤ a) && decide (a ≤ 60)) <;> cases (decide (1 ≤ b) && decide (b ≤ 60)) <;> rfl
theorem sidesF {a b c : Int} (wa : (Lit.int .i8 a).wf = true) (wb : (Lit.int .i8 b).wf = true) (wc : (Lit.int .i8 c).wf = true) : impl_Box_sides.f a b c = some [a, b, c] := by
  unfold impl_Box_sides.f; rw [w8 wa, w8 wb, w8 wc]
theorem implOk {a b c : Int} (wa : (Lit.int .i8 a).wf = true) (wb : (Lit.int .i8 b).wf = true) (wc : (Lit.int .i8 c).wf = true) : impl_ValidBox.f a b c = some (okB a b c) := by
  unfold impl_ValidBox.f impl_areWithin.f
  rw [sidesF wa wb wc]
  simp only [Option.bind_some, List.all_cons, List.all_nil, Bool.and_true, okB]
theorem toB (a b c : Int) : laws_toBox.f a b c = some (a, b, c) := rfl

end Go.Proofs.Ytmbbkaoccmokeaa.Pure

namespace Go.Proofs.Ytmbbkaoccmokeaa.P
open Go.RowKit Go.Proofs.YtmbbkaoccmokeaaW.PrintWords Go.Proofs.YtmbbkaoccmokeaaW.PrintLast Go.Proofs.YtmbbkaoccmokeaaW.PrintMore
attribute [local go_sem] max2_int min2_int max_two min_two max_three min_three max_four min_four   -- for this text's walks alone
set_option linter.unusedVariables false
set_option linter.unusedSimpArgs false

/-! ### laws_szBoxS: function 38 -/
def laws_szBoxS.f (l0 : List (S24)) (a1 : Int) : Option (Int) := if (wrap64 (a1 - (l0.length : Int))) < 0 then (some (-1)) else (some (wrap64 (a1 - (l0.length : Int))))
set_option maxHeartbeats 8000000 in
set_option maxRecDepth 100000 in
theorem laws_szBoxS.calls (A0 : Option Addr) (c0 : Nat) (l0 : List (S24)) (a1 : Int) (r : Int) (w : World) (hr0 : Kd.C k24 w A0 l0.length l0) (hc0 : l0.length ≤ c0) (h : laws_szBoxS.f l0 a1 = some r) :
    Calls Try.prog 38 #[.slice A0 l0.length c0, .int .i64 a1] w fun e w' => e = .returned (.int .i64 r) ∧ Drawn0 w w' := by
  have HR0 := Aside0.mk hr0
  have HC0 := Aside0.mk hc0
  clear hr0 hc0
  have H : (if (wrap64 (a1 - (l0.length : Int))) < 0 then (some (-1)) else (some (wrap64 (a1 - (l0.length : Int))))) = some r := h
  clear h
  by_cases c3 : (wrap64 (a1 - (l0.length : Int))) < 0
  · rw [if_pos c3] at H
    have c3b0 : decide ((wrap64 (a1 - (l0.length : Int))) < 0) = true := decide_eq_true c3
    clear c3
    obtain rfl := Option.some.inj H
    go_enter Try.func38, Try.ntmps38
    go_wp2
    go_ret
    exact ⟨by first | rfl | (simp; done) | (simp [*]; done), by repeat (first | exact Drawn0.refl _ | apply Drawn0.step)⟩
  · rw [if_neg c3] at H
    have c3b0 : decide ((wrap64 (a1 - (l0.length : Int))) < 0) = false := decide_eq_false c3
    clear c3
    obtain rfl := Option.some.inj H
    go_enter Try.func38, Try.ntmps38
    go_wp2
    go_ret
    exact ⟨by first | rfl | (simp; done) | (simp [*]; done), by repeat (first | exact Drawn0.refl _ | apply Drawn0.step)⟩

end Go.Proofs.Ytmbbkaoccmokeaa.P

namespace Go.Proofs.Ytmbbkaoccmokeaa.P
open Go.RowKit Go.Proofs.YtmbbkaoccmokeaaW.PrintWords Go.Proofs.YtmbbkaoccmokeaaW.PrintLast Go.Proofs.YtmbbkaoccmokeaaW.PrintMore
attribute [local go_sem] max2_int min2_int max_two min_two max_three min_three max_four min_four   -- for this text's walks alone
set_option linter.unusedVariables false
set_option linter.unusedSimpArgs false

/-! ### laws_toBoxS: function 40 -/
def laws_toBoxS.l0 : Nat → List (S24) → List (S26) → Int → Option ((List (S26)))
  | 0, _, _, _ => none
  | k + 1, x0, x3, x4 => if x4 < (x0.length : Int) then (if 0 ≤ x4 then ((laws_toBox.f ((rd_T24 x0 x4).f0) ((rd_T24 x0 x4).f1) ((rd_T24 x0 x4).f2)).bind fun bt476 => (if x4 < (x3.length : Int) then (laws_toBoxS.l0 k x0 (x3.set (x4 : Int).toNat (⟨bt476.1, bt476.2.1, bt476.2.2⟩ : S26)) (wrap64 (x4 + 1))) else (none))) else (none)) else (some x3)
def laws_toBoxS.f (k : Nat) (l0 : List (S24)) : Option ((List (S26))) := if 0 ≤ (l0.length : Int) then (if ((l0.length : Int) : Int).toNat ≤ 93824992236885 then (laws_toBoxS.l0 k l0 (List.replicate ((l0.length : Int) : Int).toNat z26) 0) else (none)) else (none)
theorem laws_toBoxS.mono_l : ∀ k, (∀ y0 y1 y2, LeO (laws_toBoxS.l0 k y0 y1 y2) (laws_toBoxS.l0 (k + 1) y0 y1 y2))
  | 0 => fun _ _ _ r h => by simp [laws_toBoxS.l0] at h
  | k + 1 => by
    have ih0 := laws_toBoxS.mono_l k
    · intro y0 y1 y2
      unfold laws_toBoxS.l0
      repeat' first
      | (with_reducible exact ih0 _ _ _)
      | (with_reducible exact LeO.refl _)
      | (with_reducible exact LeO.none _)
      | (with_reducible refine LeO.ite ?_ ?_)
      | (with_reducible refine LeO.bind ?_ (fun _ => ?_))
      | exact ih0 _ _ _
      | exact LeO.none _
      | refine LeO.ite ?_ ?_
      | refine LeO.bind ?_ (fun _ => ?_)
theorem laws_toBoxS.mono : ∀ a0 k, LeO (laws_toBoxS.f k a0) (laws_toBoxS.f (k + 1) a0) := by
  intro a0 k
  have ih0 := laws_toBoxS.mono_l k
  unfold laws_toBoxS.f
  repeat' first
      | (with_reducible exact ih0 _ _ _)
      | (with_reducible exact LeO.refl _)
      | (with_reducible exact LeO.none _)
      | (with_reducible refine LeO.ite ?_ ?_)
      | (with_reducible refine LeO.bind ?_ (fun _ => ?_))
      | exact ih0 _ _ _
      | exact LeO.none _
      | refine LeO.ite ?_ ?_
      | refine LeO.bind ?_ (fun _ => ?_)
set_option maxHeartbeats 8000000 in
set_option maxRecDepth 100000 in
theorem laws_toBoxS.calls (k : Nat) (A0 : Option Addr) (c0 : Nat) (l0 : List (S24)) (r : List (S26)) (w : World) (hr0 : Kd.C k24 w A0 l0.length l0) (hc0 : l0.length ≤ c0) (h : laws_toBoxS.f k l0 = some r) :
    Calls Try.prog 40 #[.slice A0 l0.length c0] w fun e w' => ∃ v0_ : Value, e = .returned (v0_) ∧ Kd.R k26 26 w' w.heap.size (fun _ => True) v0_ r ∧ Below w.heap.size w w' := by
  have hu24 := Try.underlying24
  have hu26 := Try.underlying26
  have HR0 := Aside0.mk hr0
  have HC0 := Aside0.mk hc0
  clear hr0 hc0
  have HB := Aside0.mk (Below.refl w.heap.size w)
  have H : (if 0 ≤ (l0.length : Int) then (if ((l0.length : Int) : Int).toNat ≤ 93824992236885 then (laws_toBoxS.l0 k l0 (List.replicate ((l0.length : Int) : Int).toNat z26) 0) else (none)) else (none)) = some r := h
  clear h
  by_cases c2 : 0 ≤ (l0.length : Int)
  · rw [if_pos c2] at H
    have c2b0 := eq_true c2
    have c2b1 : decide (0 ≤ (l0.length : Int)) = true := decide_eq_true c2
    clear c2
    by_cases c3 : ((l0.length : Int) : Int).toNat ≤ 93824992236885
    · rw [if_pos c3] at H
      have c3b0 := eq_true c3
      have c3b1 : decide (((l0.length : Int) : Int).toNat ≤ 93824992236885) = true := decide_eq_true c3
      clear c3
      obtain ⟨y472, hy472⟩ : ∃ y_ : List (S26), y_ = (List.replicate ((l0.length : Int) : Int).toNat z26) := ⟨_, rfl⟩
      replace H : (laws_toBoxS.l0 k l0 y472 0) = some r := by first | (rw [hy472]; with_reducible exact H) | (have H2_ := (Option.bind_some _ _).symm.trans H; rw [hy472]; with_reducible exact H2_) | (have H2_ := (Option.bind_some _ _).symm.trans H; with_reducible exact H2_) | with_reducible exact H | (rw [hy472]; exact H) | exact H
      have Ny472 := Aside0.mk hy472
      clear hy472
      have H' := Aside0.mk H
      clear H
      go_enter Try.func40, Try.ntmps40
      go_wp2_with (first | ((with_reducible refine gate_dst (N := 7) rfl ?_); refine Kd.R_make k26 _ 26 rfl (N := 7) rfl 33 _ _ rfl (l0.length : Int) rfl rfl Try.underlying33 (.agg #[(.int .i8 0), (.int .i8 0), (.int .i8 0)]) 3 info26 rfl (by decide) (by omega) z26 (ok := fun _ => True) (okp := fun _ => True) (k26_mkM _ _ _ z26 ) (fun _ hk => hk) trivial (of_decide_eq_true (by first | (with_reducible assumption) | assumption)) (Nat.le_trans (Nat.mul_le_mul_right _ (of_decide_eq_true (by first | (with_reducible assumption) | assumption) : (l0.length : Int).toNat ≤ 93824992236885)) (by omega)) (Below.refl _ _) (Nat.le_refl _) ?_; intro v473 w4 ho5 hb hg_ hnew_; clear hg_ hnew_; (first | rw [← Ny472.out] at ho5 | (simp only [Int.reduceToNat] at ho5; rw [← Ny472.out] at ho5)); have n0_ := Aside0.mk (Kd.R_lower ho5 (below_size (by repeat (first | (with_reducible first | exact HB.out | apply below_alloc | apply pw_below_drewN | apply below_drew1) | exact HB.out)))); have n1_ := Aside0.mk (below_step (by repeat (first | (with_reducible first | exact HB.out | apply below_alloc | apply pw_below_drewN | apply below_drew1) | exact HB.out)) hb); clear HB; have HO474 := n0_; have HB := n1_; clear n0_ n1_; clear hb ho5))
      go_loopg [4] k (fun kq v4 w' => ∃ (x3_1 : List (S26)) (x4_1 : Int), v4 = .int .i64 x4_1 ∧ Aside0 (laws_toBoxS.l0 kq l0 x3_1 x4_1 = some r) ∧ Aside0 (kq ≤ k) ∧ Aside0 (Kd.R k26 26 w' w.heap.size (fun _ => True) v473 x3_1) ∧ Aside0 (Below w.heap.size w w'))
      case atStart => exact ⟨(y472), (0), (by first | rfl | (simp; done) | (simp [*]; done)), H', ⟨Nat.le_refl _⟩, ⟨by (with_reducible repeat (first | apply Kd.R_alloc | apply Kd.R_drewN | apply Kd.R_drew)); exact HO474.out⟩, ⟨by repeat (first | (with_reducible first | exact HB.out | apply below_alloc | apply pw_below_drewN | apply below_drew1) | exact HB.out)⟩⟩
      case round =>
        clear H'
        try clear c2
        try clear c2b0
        try clear c2b1
        try clear p2
        try clear c3
        try clear c3b0
        try clear c3b1
        try clear c4
        obtain ⟨x3_1, x4_1, rfl, HA, HK1, HO_3, HB⟩ := hrel
        cases gk with
        | zero => exact absurd HA.out (by simp [laws_toBoxS.l0])
        | succ k1 =>
          have H := HA.out
          clear HA
          simp only [laws_toBoxS.l0] at H
          by_cases c6 : x4_1 < (l0.length : Int)
          · rw [if_pos c6] at H
            have c6b0 : decide (x4_1 < (l0.length : Int)) = true := decide_eq_true c6
            clear c6
            by_cases c7 : 0 ≤ x4_1
            · rw [if_pos c7] at H
              have c7b0 : decide (0 ≤ x4_1) = true := decide_eq_true c7
              clear c7
              replace H := Option.bind_eq_some_iff.mp H
              obtain ⟨⟨t476, t477, t478⟩, A80, H⟩ := H
              replace H : (if x4_1 < (x3_1.length : Int) then (laws_toBoxS.l0 k1 l0 (x3_1.set (x4_1 : Int).toNat (⟨t476, t477, t478⟩ : S26)) (wrap64 (x4_1 + 1))) else (none)) = some r := H
              have A8 := Aside0.mk A80
              clear A80
              by_cases c9 : x4_1 < (x3_1.length : Int)
              · rw [if_pos c9] at H
                have c9b0 : decide (x4_1 < (x3_1.length : Int)) = true := decide_eq_true c9
                clear c9
                obtain ⟨y479, hy479⟩ : ∃ y_ : List (S26), y_ = (x3_1.set (x4_1 : Int).toNat (⟨t476, t477, t478⟩ : S26)) := ⟨_, rfl⟩
                replace H : (laws_toBoxS.l0 k1 l0 y479 (wrap64 (x4_1 + 1))) = some r := by first | (rw [hy479]; with_reducible exact H) | (have H2_ := (Option.bind_some _ _).symm.trans H; rw [hy479]; with_reducible exact H2_) | (have H2_ := (Option.bind_some _ _).symm.trans H; with_reducible exact H2_) | with_reducible exact H | (rw [hy479]; exact H) | exact H
                have Ny479 := Aside0.mk hy479
                clear hy479
                have H' := Aside0.mk H
                clear H
                have p475 : 0 ≤ (x4_1 : Int) := of_decide_eq_true (by first | (with_reducible assumption) | assumption)
                have q475 : x4_1 < (l0.length : Int) := of_decide_eq_true (by first | (with_reducible assumption) | assumption)
                obtain ⟨ad475, e475, hx475_0, hx475_1, hx475_2⟩ := at_T24 HR0.out x4_1 p475 q475
                cases e475
                replace hx475_0 := (HB.out.cell (World.block_lt_of_cell? w _ hx475_0)).trans hx475_0
                replace hx475_1 := (HB.out.cell (World.block_lt_of_cell? w _ hx475_1)).trans hx475_1
                replace hx475_2 := (HB.out.cell (World.block_lt_of_cell? w _ hx475_2)).trans hx475_2
                replace p475 := eq_true p475
                replace q475 := eq_true q475
                go_wp2_with (first | ((with_reducible refine gate_callee (f := 16) rfl ?_); refine goesL_ (some 20) rfl rfl Try.func16 (by kernel_rfl) rfl #[.agg #[.int .i8 ((rd_T24 l0 x4_1).f0), .int .i8 ((rd_T24 l0 x4_1).f1), .int .i8 ((rd_T24 l0 x4_1).f2)]] rfl (by (try simp only [List.map_toArray, List.map_cons, List.map_nil]); first | done | rfl | (simp only [List.length_drop, List.length_take]; rfl)) ?_; (with_reducible refine (laws_toBox.calls ((rd_T24 l0 x4_1).f0) ((rd_T24 l0 x4_1).f1) ((rd_T24 l0 x4_1).f2) t476 t477 t478 _ A8.out).mono ?_); rintro e w11 ⟨rfl, hb⟩; refine ⟨_, rfl, ?_⟩; have n0_ := Aside0.mk (Kd.R_below (by (with_reducible repeat (first | apply Kd.R_alloc | apply Kd.R_drewN | apply Kd.R_drew)); exact HO_3.out) hb); have n1_ := Aside0.mk (below_step (by repeat (first | (with_reducible first | exact HB.out | apply below_alloc | apply pw_below_drewN | apply below_drew1) | exact HB.out)) hb); clear HO_3; clear HB; have HO_3 := n0_; have HB := n1_; clear n0_ n1_; (try clear hb); (try clear hb2); (try clear hk); (try clear hi); have p10 : 0 ≤ (x4_1 : Int) := of_decide_eq_true (by first | (with_reducible assumption) | assumption); have q10 : (x4_1 : Int) < ((x3_1.length : Int) : Int) := of_decide_eq_true (by first | (with_reducible assumption) | assumption); obtain ⟨go10, co10, eo10, gb10, gl10, cl10, HG10⟩ := Kd.R_form HO_3.out (by omega); (first | cases eo10 | (injection eo10 with ea_ en_ ec_; (first | subst ea_ | (injection ea_ with ea_; subst ea_)); subst ec_; clear en_)); have GB10 := Aside0.mk gb10; have GG10 := Aside0.mk HG10; clear gb10 gl10 HG10; obtain ⟨ce10, hcl10, hM10, hcc10, hfr10⟩ := Kd.R_elem HO_3.out z26 (x4_1 : Int) p10 q10; obtain rfl := k26_openM hM10; have hx10_0 : w11.cell? ⟨go10, (x4_1 : Int).toNat * 3, none⟩ = some (.int .i8 ((rd_T26 x3_1 x4_1).f0)) := hcc10 0 _ rfl; have hx10_1 : w11.cell? ⟨go10, (x4_1 : Int).toNat * 3 + 1, none⟩ = some (.int .i8 ((rd_T26 x3_1 x4_1).f1)) := hcc10 1 _ rfl; have hx10_2 : w11.cell? ⟨go10, (x4_1 : Int).toNat * 3 + 2, none⟩ = some (.int .i8 ((rd_T26 x3_1 x4_1).f2)) := hcc10 2 _ rfl; have hf10_0 : w11.frozen? ⟨go10, (x4_1 : Int).toNat * 3, none⟩ = false := hfr10 0; have hf10_1 : w11.frozen? ⟨go10, (x4_1 : Int).toNat * 3 + 1, none⟩ = false := hfr10 1; have hf10_2 : w11.frozen? ⟨go10, (x4_1 : Int).toNat * 3 + 2, none⟩ = false := hfr10 2; clear hcl10 hcc10 hfr10 hM10; replace p10 := eq_true p10; replace q10 := eq_true q10; have HX12 := Aside0.mk (show Kd.R k26 26 w11 w.heap.size (fun _ => True) (.slice (some ⟨go10, 0, none⟩) x3_1.length co10) x3_1 from (by (with_reducible repeat (first | apply Kd.R_alloc | apply Kd.R_drewN | apply Kd.R_drew)); exact HO_3.out)); obtain ⟨ce12, hcl12, hM12, hcc12, hfr12⟩ := Kd.R_elem HX12.out z26 (x4_1 : Int) (of_decide_eq_true (by first | (with_reducible assumption) | assumption)) (by have h_ : (x4_1 : Int) < ((x3_1.length : Int) : Int) := of_decide_eq_true (by first | (with_reducible assumption) | assumption); first | exact h_ | (have e_ := (Kd.R_reads' HO_3.out).1; omega) | simpa using h_); obtain rfl := k26_openM hM12; have HP12 := Kd.R_seg HX12.out (x4_1 : Int) (of_decide_eq_true (by first | (with_reducible assumption) | assumption)) (by have h_ : (x4_1 : Int) < ((x3_1.length : Int) : Int) := of_decide_eq_true (by first | (with_reducible assumption) | assumption); first | exact h_ | (have e_ := (Kd.R_reads' HO_3.out).1; omega) | simpa using h_) (seg := [.int .i8 t476, .int .i8 t477, .int .i8 t478]) (j := 0) hcl12 hcc12 (show 3 ≤ 3 from by decide) (x' := (⟨t476, t477, t478⟩ : S26)) (k26_mkM _ _ _ (⟨t476, t477, t478⟩ : S26) ) (fun _ hk => hk); have hx12_0 := hcc12 0 _ rfl; (try simp only [show (k26).sz = 3 from rfl, Nat.mul_one, Nat.add_zero] at hx12_0); have hf12_0 := hfr12 0; (try simp only [show (k26).sz = 3 from rfl, Nat.mul_one, Nat.add_zero] at hf12_0); have hx12_1 := hcc12 1 _ rfl; (try simp only [show (k26).sz = 3 from rfl, Nat.mul_one, Nat.add_zero] at hx12_1); have hf12_1 := hfr12 1; (try simp only [show (k26).sz = 3 from rfl, Nat.mul_one, Nat.add_zero] at hf12_1); have hx12_2 := hcc12 2 _ rfl; (try simp only [show (k26).sz = 3 from rfl, Nat.mul_one, Nat.add_zero] at hx12_2); have hf12_2 := hfr12 2; (try simp only [show (k26).sz = 3 from rfl, Nat.mul_one, Nat.add_zero] at hf12_2); clear hcl12 hcc12 hfr12 hM12) | ((with_reducible refine gate_store (t := 26) (p := 21) rfl ?_); refine store_event (t := 26) (p := 21) (v := ?vo_w13) (w1 := (((w11.setCell ⟨go10, (x4_1 : Int).toNat * 3, none⟩ (.int .i8 t476)).setCell ⟨go10, (x4_1 : Int).toNat * 3 + 1, none⟩ (.int .i8 t477)).setCell ⟨go10, (x4_1 : Int).toNat * 3 + 2, none⟩ (.int .i8 t478))) ?hg ?ho ?hn ?hr ?_; (case ho => rfl); (case hg => rfl); (case hn => rfl); (case hr => first | (go_simp; done) | (go_simp; rfl)); intro w13 hw; have hg : w11.grownBy w13 (some go10) := (by rw [hw]; exact HP12.2); have hp_ : Kd.R k26 26 w13 w.heap.size (fun _ => True) (.slice (some ⟨go10, 0, none⟩) x3_1.length co10) y479 := (by rw [hw, Ny479.out]; exact HP12.1); clear HP12; have n0_ := Aside0.mk (hp_); have n1_ := Aside0.mk ((by rw [hw]; exact below_set (below_set (below_set (HB.out) GB10.out) GB10.out) GB10.out : Below w.heap.size w w13)); clear HO_3; clear HB; have HO_3 := n0_; have HB := n1_; clear n0_ n1_; clear hg hw hp_))
                go_roundg k1
                case measure => have := HK1.out; omega
                case rel => exact ⟨(y479), (wrap64 (x4_1 + 1)), (by first | rfl | (simp; done) | (simp [*]; done)), H', ⟨by have := HK1.out; omega⟩, ⟨by (with_reducible repeat (first | apply Kd.R_alloc | apply Kd.R_drewN | apply Kd.R_drew)); exact HO_3.out⟩, ⟨by repeat (first | (with_reducible first | exact HB.out | apply below_alloc | apply pw_below_drewN | apply below_drew1) | exact HB.out)⟩⟩
              · rw [if_neg c9] at H
                exact absurd H (by simp)
            · rw [if_neg c7] at H
              exact absurd H (by simp)
          · rw [if_neg c6] at H
            have c6b0 : decide (x4_1 < (l0.length : Int)) = false := decide_eq_false c6
            clear c6
            obtain rfl := Option.some.inj H
            go_wp2
            go_ret
            exact ⟨_, by first | rfl | (simp [errW_none, errW_some] <;> rfl) | (simp [*, errW_none, errW_some] <;> rfl), by (with_reducible repeat (first | apply Kd.R_alloc | apply Kd.R_drewN | apply Kd.R_drew)); exact HO_3.out, by repeat (first | (with_reducible first | exact HB.out | apply below_alloc | apply pw_below_drewN | apply below_drew1) | exact HB.out)⟩
    · rw [if_neg c3] at H
      exact absurd H (by simp)
  · rw [if_neg c2] at H
    exact absurd H (by simp)

end Go.Proofs.Ytmbbkaoccmokeaa.P

namespace Go.Proofs.Ytmbbkaoccmokeaa.P
open Go.RowKit Go.Proofs.YtmbbkaoccmokeaaW.PrintWords Go.Proofs.YtmbbkaoccmokeaaW.PrintLast Go.Proofs.YtmbbkaoccmokeaaW.PrintMore
attribute [local go_sem] max2_int min2_int max_two min_two max_three min_three max_four min_four   -- for this text's walks alone
set_option linter.unusedVariables false
set_option linter.unusedSimpArgs false

/-! ### spec_l02Boxes: function 63 -/
def spec_l02Boxes.l0 : Nat → List (S26) → Int → Option (Bool)
  | 0, _, _ => none
  | k + 1, x0, x3 => if x3 < (x0.length : Int) then (if 0 ≤ x3 then ((spec_l02Ok.f ((rd_T26 x0 x3).f0) ((rd_T26 x0 x3).f1) ((rd_T26 x0 x3).f2)).bind fun t452 => (if t452 = true then (spec_l02Boxes.l0 k x0 (wrap64 (x3 + 1))) else (some false))) else (none)) else (some (decide ((x0.length : Int) ≤ 10)))
def spec_l02Boxes.f (k : Nat) (l0 : List (S26)) : Option (Bool) := spec_l02Boxes.l0 k l0 0
theorem spec_l02Boxes.mono_l : ∀ k, (∀ y0 y1, LeO (spec_l02Boxes.l0 k y0 y1) (spec_l02Boxes.l0 (k + 1) y0 y1))
  | 0 => fun _ _ r h => by simp [spec_l02Boxes.l0] at h
  | k + 1 => by
    have ih0 := spec_l02Boxes.mono_l k
    · intro y0 y1
      unfold spec_l02Boxes.l0
      repeat' first
      | (with_reducible exact ih0 _ _)
      | (with_reducible exact LeO.refl _)
      | (with_reducible exact LeO.none _)
      | (with_reducible refine LeO.ite ?_ ?_)
      | (with_reducible refine LeO.bind ?_ (fun _ => ?_))
      | exact ih0 _ _
      | exact LeO.none _
      | refine LeO.ite ?_ ?_
      | refine LeO.bind ?_ (fun _ => ?_)
theorem spec_l02Boxes.mono : ∀ a0 k, LeO (spec_l02Boxes.f k a0) (spec_l02Boxes.f (k + 1) a0) := by
  intro a0 k
  have ih0 := spec_l02Boxes.mono_l k
  unfold spec_l02Boxes.f
  repeat' first
      | (with_reducible exact ih0 _ _)
      | (with_reducible exact LeO.refl _)
      | (with_reducible exact LeO.none _)
      | (with_reducible refine LeO.ite ?_ ?_)
      | (with_reducible refine LeO.bind ?_ (fun _ => ?_))
      | exact ih0 _ _
      | exact LeO.none _
      | refine LeO.ite ?_ ?_
      | refine LeO.bind ?_ (fun _ => ?_)
set_option maxHeartbeats 8000000 in
set_option maxRecDepth 100000 in
theorem spec_l02Boxes.calls (k : Nat) (A0 : Option Addr) (c0 : Nat) (l0 : List (S26)) (r : Bool) (w : World) (hr0 : Kd.C k26 w A0 l0.length l0) (hc0 : l0.length ≤ c0) (h : spec_l02Boxes.f k l0 = some r) :
    Calls Try.prog 63 #[.slice A0 l0.length c0] w fun e w' => e = .returned (.bool r) ∧ Below w.heap.size w w' := by
  have hu26 := Try.underlying26
  have HR0 := Aside0.mk hr0
  have HC0 := Aside0.mk hc0
  clear hr0 hc0
  have HB := Aside0.mk (Below.refl w.heap.size w)
  have H : (spec_l02Boxes.l0 k l0 0) = some r := h
  clear h
  have H' := Aside0.mk H
  clear H
  go_enter Try.func63, Try.ntmps63
  go_wp2
  go_loopg [3] k (fun kq v3 w' => ∃ (x3_1 : Int), v3 = .int .i64 x3_1 ∧ Aside0 (spec_l02Boxes.l0 kq l0 x3_1 = some r) ∧ Aside0 (kq ≤ k) ∧ Aside0 (Below w.heap.size w w'))
  case atStart => exact ⟨(0), (by first | rfl | (simp; done) | (simp [*]; done)), H', ⟨Nat.le_refl _⟩, ⟨by repeat (first | (with_reducible first | exact HB.out | apply below_alloc | apply pw_below_drewN | apply below_drew1) | exact HB.out)⟩⟩
  case round =>
    clear H'
    obtain ⟨x3_1, rfl, HA, HK1, HB⟩ := hrel
    cases gk with
    | zero => exact absurd HA.out (by simp [spec_l02Boxes.l0])
    | succ k1 =>
      have H := HA.out
      clear HA
      simp only [spec_l02Boxes.l0] at H
      by_cases c2 : x3_1 < (l0.length : Int)
      · rw [if_pos c2] at H
        have c2b0 : decide (x3_1 < (l0.length : Int)) = true := decide_eq_true c2
        clear c2
        by_cases c3 : 0 ≤ x3_1
        · rw [if_pos c3] at H
          have c3b0 : decide (0 ≤ x3_1) = true := decide_eq_true c3
          clear c3
          replace H := Option.bind_eq_some_iff.mp H
          obtain ⟨t452, A40, H⟩ := H
          replace H : (if t452 = true then (spec_l02Boxes.l0 k1 l0 (wrap64 (x3_1 + 1))) else (some false)) = some r := H
          have A4 := Aside0.mk A40
          clear A40
          by_cases c5 : t452 = true
          · subst c5
            have H1 : (spec_l02Boxes.l0 k1 l0 (wrap64 (x3_1 + 1))) = some r := by rw [if_pos rfl] at H; exact H
            clear H
            have H := H1
            clear H1
            have H' := Aside0.mk H
            clear H
            have p451 : 0 ≤ (x3_1 : Int) := of_decide_eq_true (by first | (with_reducible assumption) | assumption)
            have q451 : x3_1 < (l0.length : Int) := of_decide_eq_true (by first | (with_reducible assumption) | assumption)
            obtain ⟨ad451, e451, hx451_0, hx451_1, hx451_2⟩ := at_T26 HR0.out x3_1 p451 q451
            cases e451
            replace hx451_0 := (HB.out.cell (World.block_lt_of_cell? w _ hx451_0)).trans hx451_0
            replace hx451_1 := (HB.out.cell (World.block_lt_of_cell? w _ hx451_1)).trans hx451_1
            replace hx451_2 := (HB.out.cell (World.block_lt_of_cell? w _ hx451_2)).trans hx451_2
            replace p451 := eq_true p451
            replace q451 := eq_true q451
            go_wp2_with (first | ((with_reducible refine gate_callee (f := 49) rfl ?_); refine goesL_ (some 14) rfl rfl Try.func49 (by kernel_rfl) rfl #[.agg #[.int .i8 ((rd_T26 l0 x3_1).f0), .int .i8 ((rd_T26 l0 x3_1).f1), .int .i8 ((rd_T26 l0 x3_1).f2)]] rfl (by (try simp only [List.map_toArray, List.map_cons, List.map_nil]); first | done | rfl | (simp only [List.length_drop, List.length_take]; rfl)) ?_; (with_reducible refine (spec_l02Ok.calls ((rd_T26 l0 x3_1).f0) ((rd_T26 l0 x3_1).f1) ((rd_T26 l0 x3_1).f2) true _ A4.out).mono ?_); rintro e w6 ⟨rfl, hb⟩; refine ⟨_, rfl, ?_⟩; have n0_ := Aside0.mk (below_step (by repeat (first | (with_reducible first | exact HB.out | apply below_alloc | apply pw_below_drewN | apply below_drew1) | exact HB.out)) hb); clear HB; have HB := n0_; clear n0_; (try clear hb); (try clear hb2); (try clear hk); (try clear hi)))
            go_roundg k1
            case measure => have := HK1.out; omega
            case rel => exact ⟨(wrap64 (x3_1 + 1)), (by first | rfl | (simp; done) | (simp [*]; done)), H', ⟨by have := HK1.out; omega⟩, ⟨by repeat (first | (with_reducible first | exact HB.out | apply below_alloc | apply pw_below_drewN | apply below_drew1) | exact HB.out)⟩⟩
          · replace c5 := Bool.eq_false_iff.mpr c5
            subst c5
            have H1 : (some false) = some r := by rw [if_neg (show ¬ (false = true) by decide)] at H; exact H
            clear H
            have H := H1
            clear H1
            obtain rfl := Option.some.inj H
            have p451 : 0 ≤ (x3_1 : Int) := of_decide_eq_true (by first | (with_reducible assumption) | assumption)
            have q451 : x3_1 < (l0.length : Int) := of_decide_eq_true (by first | (with_reducible assumption) | assumption)
            obtain ⟨ad451, e451, hx451_0, hx451_1, hx451_2⟩ := at_T26 HR0.out x3_1 p451 q451
            cases e451
            replace hx451_0 := (HB.out.cell (World.block_lt_of_cell? w _ hx451_0)).trans hx451_0
            replace hx451_1 := (HB.out.cell (World.block_lt_of_cell? w _ hx451_1)).trans hx451_1
            replace hx451_2 := (HB.out.cell (World.block_lt_of_cell? w _ hx451_2)).trans hx451_2
            replace p451 := eq_true p451
            replace q451 := eq_true q451
            go_wp2_with (first | ((with_reducible refine gate_callee (f := 49) rfl ?_); refine goesL_ (some 14) rfl rfl Try.func49 (by kernel_rfl) rfl #[.agg #[.int .i8 ((rd_T26 l0 x3_1).f0), .int .i8 ((rd_T26 l0 x3_1).f1), .int .i8 ((rd_T26 l0 x3_1).f2)]] rfl (by (try simp only [List.map_toArray, List.map_cons, List.map_nil]); first | done | rfl | (simp only [List.length_drop, List.length_take]; rfl)) ?_; (with_reducible refine (spec_l02Ok.calls ((rd_T26 l0 x3_1).f0) ((rd_T26 l0 x3_1).f1) ((rd_T26 l0 x3_1).f2) false _ A4.out).mono ?_); rintro e w7 ⟨rfl, hb⟩; refine ⟨_, rfl, ?_⟩; have n0_ := Aside0.mk (below_step (by repeat (first | (with_reducible first | exact HB.out | apply below_alloc | apply pw_below_drewN | apply below_drew1) | exact HB.out)) hb); clear HB; have HB := n0_; clear n0_; (try clear hb); (try clear hb2); (try clear hk); (try clear hi)))
            go_ret
            exact ⟨by first | rfl | (simp [errW_none, errW_some] <;> rfl) | (simp [*, errW_none, errW_some] <;> rfl), by repeat (first | (with_reducible first | exact HB.out | apply below_alloc | apply pw_below_drewN | apply below_drew1) | exact HB.out)⟩
        · rw [if_neg c3] at H
          exact absurd H (by simp)
      · rw [if_neg c2] at H
        have c2b0 : decide (x3_1 < (l0.length : Int)) = false := decide_eq_false c2
        clear c2
        obtain rfl := Option.some.inj H
        go_wp2
        go_ret
        exact ⟨by first | rfl | (simp [errW_none, errW_some] <;> rfl) | (simp [*, errW_none, errW_some] <;> rfl), by repeat (first | (with_reducible first | exact HB.out | apply below_alloc | apply pw_below_drewN | apply below_drew1) | exact HB.out)⟩

end Go.Proofs.Ytmbbkaoccmokeaa.P

namespace Go.Proofs.Ytmbbkaoccmokeaa.Pure
open Go.RowKit Go.Proofs.Ytmbbkaoccmokeaa.P Go.Proofs.YtmbbkaoccmokeaaW.PrintWords Go.Proofs.YtmbbkaoccmokeaaW.PrintLast
set_option linter.unusedVariables false
set_option linter.unusedSimpArgs false

/-- A box stands in front of another one. -/
def ltx (p q : S26) : Prop := p.f0 < q.f0 ∨ (p.f0 = q.f0 ∧ (p.f1 < q.f1 ∨ (p.f1 = q.f1 ∧ p.f2 < q.f2)))
theorem ltx_asymm {p q : S26} : ltx p q → ¬ ltx q p := by unfold ltx; omega
theorem ltx_trans {p q r : S26} : ltx p q → ltx q r → ltx p r := by unfold ltx; omega
theorem lex_trans {p q r : S26} : ¬ ltx q p → ¬ ltx r q → ¬ ltx r p := by unfold ltx; omega
theorem ltx_irrefl (p : S26) : ¬ ltx p p := by unfold ltx; omega
theorem ltx_le {p q r : S26} : ¬ ltx q p → ltx q r → ltx p r := by unfold ltx; omega
theorem S_ext {p q : S26} (h0 : p.f0 = q.f0) (h1 : p.f1 = q.f1) (h2 : p.f2 = q.f2) : p = q := by
  cases p; cases q; simp only at h0 h1 h2; subst h0 h1 h2; rfl
theorem ltx_eq {p q : S26} (h : ¬ ltx p q) (h' : ¬ ltx q p) : p = q := by
  unfold ltx at h h'
  exact S_ext (by omega) (by omega) (by omega)
/-- Two boxes are one, as Go tells it. -/
def same (p q : S26) : Bool := (p.f0 == q.f0 && (p.f1 == q.f1 && p.f2 == q.f2))
theorem same_iff {p q : S26} : same p q = true ↔ p = q := by
  unfold same
  constructor
  · intro h
    simp only [Bool.and_eq_true, beq_iff_eq] at h
    exact S_ext h.1 h.2.1 h.2.2
  · rintro rfl; simp
theorem same_not (p q : S26) : (!(p.f0 == q.f0) || (!(p.f1 == q.f1) || (!(p.f2 == q.f2)))) = !same p q := by
  unfold same
  cases (p.f0 == q.f0) <;> cases (p.f1 == q.f1) <;> cases (p.f2 == q.f2) <;> rfl

/-- Two rising lists with the same members are one. -/
theorem rise_uniq : ∀ (l m : List S26), l.Pairwise ltx → m.Pairwise ltx → (∀ s, s ∈ l ↔ s ∈ m) → l = m := by
  intro l
  induction l with
  | nil =>
    intro m _ _ h
    cases m with
    | nil => rfl
    | cons b m => exact absurd ((h b).2 (List.mem_cons_self ..)) (List.not_mem_nil)
  | cons a l ih =>
    intro m hl hm h
    cases m with
    | nil => exact absurd ((h a).1 (List.mem_cons_self ..)) (List.not_mem_nil)
    | cons b m =>
      rw [List.pairwise_cons] at hl hm
      have hab : a = b := by
        rcases List.mem_cons.1 ((h a).1 (List.mem_cons_self ..)) with e | e
        · exact e
        · rcases List.mem_cons.1 ((h b).2 (List.mem_cons_self ..)) with e' | e'
          · exact e'.symm
          · exact absurd (hm.1 a e) (ltx_asymm (hl.1 b e'))
      subst hab
      rw [ih m hl.2 hm.2 (fun s => ?_)]
      constructor
      · intro hs
        rcases List.mem_cons.1 ((h s).1 (List.mem_cons_of_mem _ hs)) with e | e
        · subst e; exact absurd (hl.1 s hs) (ltx_irrefl s)
        · exact e
      · intro hs
        rcases List.mem_cons.1 ((h s).2 (List.mem_cons_of_mem _ hs)) with e | e
        · subst e; exact absurd (hm.1 s hs) (ltx_irrefl s)
        · exact e

/-- How two numbers compare. -/
def c3 (a b : Int) : Int := if a < b then -1 else if a > b then 1 else 0
theorem cmpI (a b : Int) : cmp_Compare_int8.f a b = some (c3 a b) := by
  unfold cmp_Compare_int8.f cmp_isNaN_int8.f c3
  simp only [Option.bind_some, bne_self_eq_false, Bool.false_eq_true, if_false]
  split
  · rfl
  · split <;> rfl
theorem orF (x y z : Int) (k : Nat) : cmp_Or_int.f (k + 4) [x, y, z] = some (if x = 0 then (if y = 0 then z else y) else x) := by
  have l1 : (([x, y, z] : List Int).length : Int) = 3 := rfl
  have r0 : rd [x, y, z] 0 = x := rfl
  have r1 : rd [x, y, z] 1 = y := rfl
  have r2 : rd [x, y, z] 2 = z := rfl
  rw [cmp_Or_int.f, l1, show k + 4 = k + 3 + 1 from rfl, cmp_Or_int.l0, if_pos (by omega), if_pos (by omega), if_pos (by omega), r0, w64 (x := 0 + 1) (by omega) (by omega)]
  by_cases hx : x = 0
  · rw [if_pos hx, if_pos hx, show (0 : Int) + 1 = 1 from rfl, show k + 3 = k + 2 + 1 from rfl, cmp_Or_int.l0, if_pos (by omega), if_pos (by omega), if_pos (by omega), r1, w64 (x := 1 + 1) (by omega) (by omega)]
    by_cases hy : y = 0
    · rw [if_pos hy, if_pos hy, show (1 : Int) + 1 = 2 from rfl, show k + 2 = k + 1 + 1 from rfl, cmp_Or_int.l0, if_pos (by omega), if_pos (by omega), if_pos (by omega), r2, w64 (x := 2 + 1) (by omega) (by omega)]
      by_cases hz : z = 0
      · rw [if_pos hz, show (2 : Int) + 1 = 3 from rfl, cmp_Or_int.l0, if_neg (by omega), hz]
      · rw [if_neg hz]
    · rw [if_neg hy, if_neg hy]
  · rw [if_neg hx, if_neg hx]
theorem cmpEv (p q : S26) : ∃ c, (∀ k, impl_Box_turns_1.f (k + 4) p.f0 p.f1 p.f2 q.f0 q.f1 q.f2 = some c) ∧ (c < 0 ↔ ltx p q) := by
  refine ⟨_, fun k => by rw [impl_Box_turns_1.f, cmpI, cmpI, cmpI, Option.bind_some, Option.bind_some, Option.bind_some, orF, Option.bind_some], ?_⟩
  unfold c3 ltx
  by_cases h0 : p.f0 < q.f0 <;> by_cases h1 : p.f0 > q.f0 <;> by_cases h2 : p.f1 < q.f1 <;> by_cases h3 : p.f1 > q.f1 <;> by_cases h4 : p.f2 < q.f2 <;> by_cases h5 : p.f2 > q.f2 <;> simp only [h0, h1, h2, h3, h4, h5, if_true, if_false] <;> simp <;> omega

end Go.Proofs.Ytmbbkaoccmokeaa.Pure

namespace Go.Proofs.Ytmbbkaoccmokeaa.Pure
open Go.RowKit Go.Proofs.Ytmbbkaoccmokeaa.P Go.Proofs.YtmbbkaoccmokeaaW.PrintWords Go.Proofs.YtmbbkaoccmokeaaW.PrintLast
set_option linter.unusedVariables false
set_option linter.unusedSimpArgs false

theorem rdT (l : List S26) (i : Nat) : rd_T26 l (i : Int) = l.getD i z26 := rfl
theorem getD_eqG {α : Type} (z : α) (l : List α) (i : Nat) (h : i < l.length) : l.getD i z = l[i] := by
  rw [List.getD_eq_getElem?_getD, List.getElem?_eq_getElem h]; rfl
theorem getD_setG {α : Type} (z : α) (l : List α) (i j : Nat) (v : α) (h : i < l.length) : (l.set i v).getD j z = if i = j then v else l.getD j z := by
  simp only [List.getD_eq_getElem?_getD, List.getElem?_set]
  by_cases e : i = j
  · subst e; simp [h]
  · simp [e]
theorem mem_getDG {α : Type} (z : α) (l : List α) (s : α) : s ∈ l ↔ ∃ i, i < l.length ∧ l.getD i z = s := by
  rw [List.mem_iff_getElem]
  constructor
  · rintro ⟨i, hi, e⟩; exact ⟨i, hi, by rw [getD_eqG z l i hi, e]⟩
  · rintro ⟨i, hi, e⟩; exact ⟨i, hi, by rw [← getD_eqG z l i hi, e]⟩

/-- Sorted up to a place. -/
def Srt (x : List S26) (i : Nat) : Prop := ∀ p q, p < q → q ≤ i → ¬ ltx (x.getD q z26) (x.getD p z26)
def Alike (x y : List S26) : Prop := ∀ s, s ∈ x ↔ s ∈ y
/-- Sorted up to a place, but for one box that may have to go on to the front. -/
def Ins (x : List S26) (i j : Nat) : Prop := ∀ p q, p < q → q ≤ i → q ≠ j → ¬ ltx (x.getD q z26) (x.getD p z26)

def swp (x : List S26) (j : Nat) : List S26 := (x.set j (x.getD (j - 1) z26)).set (j - 1) (x.getD j z26)
theorem swp_len (x : List S26) (j : Nat) : (swp x j).length = x.length := by simp [swp]
theorem swp_at (x : List S26) (j q : Nat) (h0 : 0 < j) (hj : j < x.length) : (swp x j).getD q z26 = if q = j - 1 then x.getD j z26 else if q = j then x.getD (j - 1) z26 else x.getD q z26 := by
  unfold swp
  rw [getD_setG z26 _ _ _ _ (by rw [List.length_set]; omega), getD_setG z26 _ _ _ _ hj]
  by_cases e1 : q = j - 1
  · rw [if_pos e1, if_pos e1.symm]
  · rw [if_neg e1, if_neg (fun e => e1 e.symm)]
    by_cases e2 : q = j
    · rw [if_pos e2, if_pos e2.symm]
    · rw [if_neg e2, if_neg (fun e => e2 e.symm)]
theorem swp_mem (x : List S26) (j : Nat) (h0 : 0 < j) (hj : j < x.length) : Alike (swp x j) x := by
  intro s
  rw [mem_getDG z26, mem_getDG z26, swp_len]
  constructor
  · rintro ⟨i, hi, e⟩
    rw [swp_at x j i h0 hj] at e
    by_cases e1 : i = j - 1
    · rw [if_pos e1] at e; exact ⟨j, hj, e⟩
    · rw [if_neg e1] at e
      by_cases e2 : i = j
      · rw [if_pos e2] at e; exact ⟨j - 1, by omega, e⟩
      · rw [if_neg e2] at e; exact ⟨i, hi, e⟩
  · rintro ⟨i, hi, e⟩
    by_cases e1 : i = j - 1
    · exact ⟨j, hj, by rw [swp_at x j j h0 hj, if_neg (by omega), if_pos rfl, ← e1]; exact e⟩
    · by_cases e2 : i = j
      · exact ⟨j - 1, by omega, by rw [swp_at x j _ h0 hj, if_pos rfl, ← e2]; exact e⟩
      · exact ⟨i, hi, by rw [swp_at x j i h0 hj, if_neg e1, if_neg e2]; exact e⟩
theorem swp_ins (x : List S26) (i j : Nat) (h0 : 0 < j) (hji : j ≤ i) (hi : i < x.length) (h : Ins x i j) (hl : ltx (x.getD j z26) (x.getD (j - 1) z26)) : Ins (swp x j) i (j - 1) := by
  intro p q hpq hqi hqj
  rw [swp_at x j q h0 (by omega), swp_at x j p h0 (by omega), if_neg hqj]
  by_cases e2 : q = j
  · rw [if_pos e2]
    by_cases e3 : p = j - 1
    · rw [if_pos e3]; exact ltx_asymm hl
    · rw [if_neg e3, if_neg (by omega)]
      exact h p (j - 1) (by omega) (by omega) (by omega)
  · rw [if_neg e2]
    by_cases e3 : p = j - 1
    · rw [if_pos e3]; exact h j q (by omega) hqi e2
    · rw [if_neg e3]
      by_cases e4 : p = j
      · rw [if_pos e4]; exact h (j - 1) q (by omega) hqi e2
      · rw [if_neg e4]; exact h p q hpq hqi e2
theorem ins_srt (x : List S26) (i j : Nat) (h : Ins x i j) (he : j = 0 ∨ ¬ ltx (x.getD j z26) (x.getD (j - 1) z26)) : Srt x i := by
  intro p q hpq hqi
  by_cases e : q = j
  · subst e
    rcases he with he | he
    · omega
    · by_cases e2 : p = q - 1
      · subst e2; exact he
      · exact lex_trans (h p (q - 1) (by omega) (by omega) (by omega)) he
  · exact h p q hpq hqi e

theorem ins_l1 (n i : Nat) (hi : i < n) (hn : n ≤ 1000) : ∀ j x, x.length = n → j ≤ i → Ins x i j →
    ∃ x', x'.length = n ∧ Alike x' x ∧ Srt x' i ∧ ∀ r, Ev (fun k => impl_Box_82.l0 k x' 0 (n : Int) ((i + 1 : Nat) : Int)) r → Ev (fun k => impl_Box_82.l1 k x 0 (n : Int) (i : Int) (j : Int)) r := by
  intro j
  induction j with
  | zero =>
    intro x hx hj h
    refine ⟨x, hx, fun s => Iff.rfl, ins_srt x i 0 h (.inl rfl), fun r he => Ev.step (fun k => ?_) he⟩
    rw [impl_Box_82.l1, if_neg (by omega), wN i (by omega)]
  | succ j ih =>
    intro x hx hj h
    obtain ⟨c, hc, hcl⟩ := cmpEv (x.getD (j + 1) z26) (x.getD j z26)
    have ew : wrap64 (((j + 1 : Nat) : Int) - 1) = (j : Int) := by rw [w64 (by omega) (by omega)]; omega
    have e1 : ∀ k, impl_Box_82.l1 (k + 4 + 1) x 0 (n : Int) (i : Int) ((j + 1 : Nat) : Int) = if c < 0 then impl_Box_82.l1 (k + 4) (swp x (j + 1)) 0 (n : Int) (i : Int) (j : Int) else impl_Box_82.l0 (k + 4) x 0 (n : Int) ((i + 1 : Nat) : Int) := fun k => by
      rw [impl_Box_82.l1, if_pos (by omega), if_pos (by omega), if_pos (by omega), ew, if_pos (by omega), if_pos (by omega), rdT, rdT, hc k, Option.bind_some, wN i (by omega)]
      rfl
    by_cases hlt : ltx (x.getD (j + 1) z26) (x.getD j z26)
    · obtain ⟨x', a1, a2, a3, a4⟩ := ih (swp x (j + 1)) (by rw [swp_len, hx]) (by omega) (swp_ins x i (j + 1) (by omega) hj (by omega) h hlt)
      refine ⟨x', a1, fun s => (a2 s).trans (swp_mem x (j + 1) (by omega) (by omega) s), a3, fun r he => ?_⟩
      obtain ⟨K, hK⟩ := EvG (a4 r he)
      refine EvI (K + 5) fun k hk => ?_
      obtain ⟨m, rfl⟩ : ∃ m, k = m + 4 + 1 := ⟨k - 5, by omega⟩
      rw [e1, if_pos (hcl.2 hlt)]
      exact hK _ (by omega)
    · refine ⟨x, hx, fun s => Iff.rfl, ins_srt x i (j + 1) h (.inr hlt), fun r he => ?_⟩
      obtain ⟨K, hK⟩ := EvG he
      refine EvI (K + 5) fun k hk => ?_
      obtain ⟨m, rfl⟩ : ∃ m, k = m + 4 + 1 := ⟨k - 5, by omega⟩
      rw [e1, if_neg (fun q => hlt (hcl.1 q))]
      exact hK _ (by omega)
theorem ins_l0 (n : Nat) (hn : n ≤ 1000) : ∀ d i x, n - i = d → 1 ≤ i → i ≤ n → x.length = n → Srt x (i - 1) → ∃ y, y.length = n ∧ Alike y x ∧ Srt y (n - 1) ∧ Ev (fun k => impl_Box_82.l0 k x 0 (n : Int) (i : Int)) y := by
  intro d
  induction d with
  | zero =>
    intro i x hd h1 hi hx hs
    obtain rfl : i = n := by omega
    refine ⟨x, hx, fun s => Iff.rfl, hs, Ev.step (f := fun _ => some x) (fun k => ?_) (Ev.now _)⟩
    rw [impl_Box_82.l0, if_neg (by omega)]
  | succ d ih =>
    intro i x hd h1 hi hx hs
    obtain ⟨x', a1, a2, a3, a4⟩ := ins_l1 n i (by omega) hn i x hx (Nat.le_refl _) (fun p q hpq hqi hq => hs p q hpq (by omega))
    obtain ⟨y, b1, b2, b3, b4⟩ := ih (i + 1) x' (by omega) (by omega) (by omega) a1 (by rw [Nat.add_sub_cancel]; exact a3)
    refine ⟨y, b1, fun s => (b2 s).trans (a2 s), b3, Ev.step (fun k => ?_) (a4 y b4)⟩
    rw [impl_Box_82.l0, if_pos (by omega)]
theorem sort_small (x : List S26) (h1 : 1 ≤ x.length) (h12 : x.length ≤ 12) (r : Int) (hr : Ev (fun k => bits_Len.f k (IntKind.u64.wrap (x.length : Int))) r) : ∃ y, y.length = x.length ∧ Alike y x ∧ Srt y (x.length - 1) ∧ Ev (fun k => impl_Box_69.f k x) y := by
  obtain ⟨y, a1, a2, a3, a4⟩ := ins_l0 x.length (by omega) _ 1 x rfl (Nat.le_refl _) h1 rfl (fun p q hpq hq => by omega)
  obtain ⟨K1, hr⟩ := EvG hr
  obtain ⟨K2, a4⟩ := EvG a4
  refine ⟨y, a1, a2, a3, EvI (K1 + K2 + 3) fun k hk => ?_⟩
  obtain ⟨m, rfl⟩ : ∃ m, k = m + 2 := ⟨k - 2, by omega⟩
  rw [impl_Box_69.f, hr _ (by omega), Option.bind_some, impl_Box_78.f, impl_Box_78.l0, if_pos (by rw [w64 (by omega) (by omega)]; omega), impl_Box_82.f, w64 (x := 0 + 1) (by omega) (by omega), show (0 : Int) + 1 = ((1 : Nat) : Int) from rfl, a4 m (by omega)]
  rfl

end Go.Proofs.Ytmbbkaoccmokeaa.Pure

namespace Go.Proofs.Ytmbbkaoccmokeaa.Pure
open Go.RowKit Go.Proofs.Ytmbbkaoccmokeaa.P Go.Proofs.YtmbbkaoccmokeaaW.PrintWords Go.Proofs.YtmbbkaoccmokeaaW.PrintLast
set_option linter.unusedVariables false
set_option linter.unusedSimpArgs false

/-- The first n boxes of a list without duplicates in a row. -/
def thin (y : List S26) : Nat → List S26
  | 0 => []
  | p + 1 => if p = 0 then [y.getD 0 z26] else if same (y.getD p z26) (y.getD (p - 1) z26) = true then thin y p else thin y p ++ [y.getD p z26]
theorem thin_len (y : List S26) : ∀ p, (thin y p).length ≤ p := by
  intro p
  induction p with
  | zero => exact Nat.le_refl _
  | succ p ih =>
    rw [thin]
    split
    · simp
    · split
      · omega
      · rw [List.length_append]; simp; omega
theorem thin_spec (y : List S26) (hs : Srt y (y.length - 1)) : ∀ p, p ≤ y.length → (thin y p).Pairwise ltx ∧ (∀ s, s ∈ thin y p ↔ ∃ i, i < p ∧ y.getD i z26 = s) := by
  intro p
  induction p with
  | zero => intro _; exact ⟨List.Pairwise.nil, fun s => ⟨fun h => absurd h List.not_mem_nil, fun ⟨i, hi, _⟩ => absurd hi (Nat.not_lt_zero _)⟩⟩
  | succ p ih =>
    intro hp
    obtain ⟨h1, h2⟩ := ih (by omega)
    rw [thin]
    by_cases h0 : p = 0
    · subst h0
      rw [if_pos rfl]
      refine ⟨List.pairwise_singleton _ _, fun s => ?_⟩
      rw [List.mem_singleton]
      exact ⟨fun e => ⟨0, by omega, e.symm⟩, fun ⟨i, hi, e⟩ => by have h0 : i = 0 := (by omega); rw [← e, h0]⟩
    · rw [if_neg h0]
      by_cases hq : same (y.getD p z26) (y.getD (p - 1) z26) = true
      · rw [if_pos hq]
        refine ⟨h1, fun s => (h2 s).trans ⟨fun ⟨i, hi, e⟩ => ⟨i, by omega, e⟩, fun ⟨i, hi, e⟩ => ?_⟩⟩
        by_cases e2 : i = p
        · subst e2; exact ⟨i - 1, by omega, by rw [← same_iff.1 hq]; exact e⟩
        · exact ⟨i, by omega, e⟩
      · rw [if_neg hq]
        refine ⟨List.pairwise_append.2 ⟨h1, List.pairwise_singleton _ _, fun a ha b hb => ?_⟩, fun s => ?_⟩
        · rw [List.mem_singleton.1 hb]
          obtain ⟨i, hi, e⟩ := (h2 a).1 ha
          have g1 : ltx (y.getD (p - 1) z26) (y.getD p z26) := by
            apply Classical.byContradiction
            intro hn
            exact hq (same_iff.2 (ltx_eq (hs (p - 1) p (by omega) (by omega)) hn))
          subst e
          by_cases e2 : i = p - 1
          · rw [e2]; exact g1
          · exact ltx_le (hs i (p - 1) (by omega) (by omega)) g1
        · rw [List.mem_append, List.mem_singleton, h2 s]
          constructor
          · rintro (⟨i, hi, e⟩ | e)
            · exact ⟨i, by omega, e⟩
            · exact ⟨p, by omega, e.symm⟩
          · rintro ⟨i, hi, e⟩
            by_cases e2 : i = p
            · subst e2; exact .inr e.symm
            · exact .inl ⟨i, by omega, e⟩

theorem getD_drop (y : List S26) (k i : Nat) : (y.drop k).getD i z26 = y.getD (k + i) z26 := by
  simp only [List.getD_eq_getElem?_getD, List.getElem?_drop]
theorem take_set (x : List S26) (k : Nat) (v : S26) (h : k < x.length) : (x.set k v).take (k + 1) = x.take k ++ [v] := by
  rw [List.take_add_one, List.take_set_of_le (Nat.le_refl _), List.getElem?_set_self h]; rfl

theorem comp_l1 (y : List S26) (hn : y.length ≤ 1000) (k0 : Nat) : ∀ d k2 x0 k, y.length - (k0 + k2) = d → 1 ≤ k2 → k0 + k2 ≤ y.length → x0.length = y.length → k < k0 + k2 → x0.take k = thin y (k0 + k2) → k = (thin y (k0 + k2)).length →
    Ev (fun q => impl_Box_73.l1 q x0 (k : Int) (y.drop k0) (k2 : Int)) (thin y y.length) := by
  intro d
  induction d with
  | zero =>
    intro k2 x0 k hd h1 hi hx hk ht hl
    have e : k0 + k2 = y.length := by omega
    rw [e] at ht
    refine Ev.step (f := fun _ => some (thin y y.length)) (fun q => ?_) (Ev.now _)
    rw [impl_Box_73.l1, if_neg (by rw [List.length_drop]; omega), if_pos (by omega), if_pos (by omega), Int.toNat_natCast, ht]
  | succ d ih =>
    intro k2 x0 k hd h1 hi hx hk ht hl
    have ew : wrap64 ((k2 : Int) - 1) = ((k2 - 1 : Nat) : Int) := by rw [w64 (by omega) (by omega)]; omega
    have e3 : thin y (k0 + (k2 + 1)) = if same (y.getD (k0 + k2) z26) (y.getD (k0 + k2 - 1) z26) = true then thin y (k0 + k2) else thin y (k0 + k2) ++ [y.getD (k0 + k2) z26] := by
      rw [← Nat.add_assoc, thin, if_neg (by omega)]
    have g0 : rd_T26 (y.drop k0) (k2 : Int) = y.getD (k0 + k2) z26 := by rw [rdT, getD_drop]
    have g1 : rd_T26 (y.drop k0) ((k2 - 1 : Nat) : Int) = y.getD (k0 + k2 - 1) z26 := by rw [rdT, getD_drop]; congr 1; omega
    have hd2 : (y.drop k0).length = y.length - k0 := List.length_drop
    by_cases hq : same (y.getD (k0 + k2) z26) (y.getD (k0 + k2 - 1) z26) = true
    · rw [if_pos hq] at e3
      refine Ev.step (fun q => ?_) (ih (k2 + 1) x0 k (by omega) (by omega) (by omega) hx (by omega) (by rw [e3]; exact ht) (by rw [e3]; exact hl))
      rw [impl_Box_73.l1, if_pos (by omega), if_pos (by omega), ew, if_pos (by omega), if_pos (by omega), g0, g1, same_not, if_neg (by rw [hq]; simp), wN k2 (by omega)]
    · rw [if_neg hq] at e3
      refine Ev.step (fun q => ?_) (ih (k2 + 1) (x0.set k (y.getD (k0 + k2) z26)) (k + 1) (by omega) (by omega) (by omega) (by rw [List.length_set, hx]) (by omega) (by rw [e3, take_set x0 k _ (by omega), ht]) (by rw [e3, List.length_append, ← hl]; rfl))
      rw [impl_Box_73.l1, if_pos (by omega), if_pos (by omega), ew, if_pos (by omega), if_pos (by omega), g0, g1, same_not, if_pos (by simpa using hq), if_pos (by omega), if_pos (by omega), wN k2 (by omega), wN k (by omega), Int.toNat_natCast]
theorem comp_l0 (y : List S26) (hn : y.length ≤ 1000) : ∀ d i, y.length - i = d → 1 ≤ i → i ≤ y.length → thin y i = y.take i → Ev (fun q => impl_Box_73.l0 q y (i : Int)) (thin y y.length) := by
  intro d
  induction d with
  | zero =>
    intro i hd h1 hi ht
    obtain rfl : i = y.length := by omega
    rw [List.take_length] at ht
    refine Ev.step (f := fun _ => some y) (fun q => ?_) (by rw [ht]; exact Ev.now _)
    rw [impl_Box_73.l0, if_neg (by omega)]
  | succ d ih =>
    intro i hd h1 hi ht
    have ew : wrap64 ((i : Int) - 1) = ((i - 1 : Nat) : Int) := by rw [w64 (by omega) (by omega)]; omega
    have e3 : thin y (i + 1) = if same (y.getD i z26) (y.getD (i - 1) z26) = true then thin y i else thin y i ++ [y.getD i z26] := by
      rw [thin, if_neg (by omega)]
    have hl : (thin y i).length = i := by rw [ht, List.length_take]; omega
    by_cases hq : same (y.getD i z26) (y.getD (i - 1) z26) = true
    · rw [if_pos hq] at e3
      refine Ev.step (fun q => ?_) (comp_l1 y hn i _ 1 y i rfl (Nat.le_refl _) (by omega) rfl (by omega) (by rw [e3, ht]) (by rw [e3, hl]))
      have hq' : (((y.getD i z26).f0 == (y.getD (i - 1) z26).f0) && (((y.getD i z26).f1 == (y.getD (i - 1) z26).f1) && ((y.getD i z26).f2 == (y.getD (i - 1) z26).f2))) = true := hq
      rw [impl_Box_73.l0, if_pos (by omega), if_pos (by omega), ew, if_pos (by omega), if_pos (by omega), rdT, rdT, if_pos hq', if_pos (by omega), Int.toNat_natCast]
      rfl
    · rw [if_neg hq] at e3
      refine Ev.step (fun q => ?_) (ih (i + 1) (by omega) (by omega) (by omega) (by rw [e3, ht, List.take_add_one, List.getD_eq_getElem?_getD, List.getElem?_eq_getElem (by omega)]; rfl))
      have hq' : ¬ (((y.getD i z26).f0 == (y.getD (i - 1) z26).f0) && (((y.getD i z26).f1 == (y.getD (i - 1) z26).f1) && ((y.getD i z26).f2 == (y.getD (i - 1) z26).f2))) = true := hq
      rw [impl_Box_73.l0, if_pos (by omega), if_pos (by omega), ew, if_pos (by omega), if_pos (by omega), rdT, rdT, if_neg hq', wN i (by omega)]
theorem compF (y : List S26) (hn : y.length ≤ 1000) (h2 : 2 ≤ y.length) : Ev (fun q => impl_Box_73.f q y) (thin y y.length) := by
  obtain ⟨K, h⟩ := EvG (comp_l0 y hn _ 1 rfl (Nat.le_refl _) (by omega) (by
    rw [thin, if_pos rfl]
    cases y with
    | nil => simp at h2
    | cons a y => rfl))
  refine EvI K fun q hq => ?_
  rw [impl_Box_73.f, if_neg (by omega)]
  exact h q hq

end Go.Proofs.Ytmbbkaoccmokeaa.Pure

namespace Go.Proofs.Ytmbbkaoccmokeaa.Pure
open Go.RowKit Go.Proofs.Ytmbbkaoccmokeaa.P Go.Proofs.YtmbbkaoccmokeaaW.PrintWords Go.Proofs.YtmbbkaoccmokeaaW.PrintLast
set_option linter.unusedVariables false
set_option linter.unusedSimpArgs false

/-- The six orders of three sides. -/
def six (a b c : Int) : List S26 := [⟨a, b, c⟩, ⟨a, c, b⟩, ⟨b, a, c⟩, ⟨b, c, a⟩, ⟨c, a, b⟩, ⟨c, b, a⟩]
theorem len6 : ∃ r, Ev (fun k => bits_Len.f k (IntKind.u64.wrap ((6 : Nat) : Int))) r := by
  have h : bits_Len.f 1 (IntKind.u64.wrap ((6 : Nat) : Int)) = some 3 := by decide +kernel
  exact ⟨3, Ev.of (fun k => bits_Len.mono _ k) h⟩
theorem turnsI (a b c : Int) : ∃ l : List S26, l.Pairwise ltx ∧ (∀ s, s ∈ l ↔ s ∈ six a b c) ∧ Ev (fun k => impl_Box_turns.f k a b c) l := by
  obtain ⟨r, hr⟩ := len6
  obtain ⟨y, hy1, hy2, hy3, hy4⟩ := sort_small (six a b c) (by simp [six]) (by simp [six]) r hr
  have hl : y.length = 6 := by rw [hy1]; rfl
  obtain ⟨h1, h2⟩ := thin_spec y (by rw [hy1]; exact hy3) y.length (Nat.le_refl _)
  refine ⟨thin y y.length, h1, fun s => ?_, ?_⟩
  · rw [h2 s, ← mem_getDG z26, hy2 s]
  · obtain ⟨K1, h4⟩ := EvG hy4
    obtain ⟨K2, h5⟩ := EvG (compF y (by omega) (by omega))
    refine EvI (K1 + K2) fun k hk => ?_
    rw [impl_Box_turns.f]
    show (impl_Box_69.f k (six a b c)).bind _ = _
    rw [h4 k (by omega), Option.bind_some, h5 k (by omega), Option.bind_some]

/-- What is new, one after the other. -/
def ded : List S26 → List S26 → List S26
  | acc, [] => acc
  | acc, a :: l => if acc.any (fun x => same x a) = true then ded acc l else ded (acc ++ [a]) l
/-- Each member stands among those ahead of it, or behind all of them. -/
def Good : List S26 → List S26 → Prop
  | _, [] => True
  | acc, a :: l => (a ∈ acc ∧ Good acc l) ∨ ((∀ x ∈ acc, ltx x a) ∧ Good (acc ++ [a]) l)
theorem ded_spec : ∀ (l acc : List S26), acc.Pairwise ltx → Good acc l →
    (ded acc l).Pairwise ltx ∧ ∀ s, s ∈ ded acc l ↔ (s ∈ acc ∨ s ∈ l) := by
  intro l
  induction l with
  | nil => intro acc h _; exact ⟨h, fun s => by simp [ded]⟩
  | cons a l ih =>
    intro acc h h2
    rw [ded]
    rcases h2 with ⟨hm, h2⟩ | ⟨hn, h2⟩
    · have hq : (acc.any fun x => same x a) = true := List.any_eq_true.2 ⟨a, hm, same_iff.2 rfl⟩
      rw [if_pos hq]
      obtain ⟨g1, g2⟩ := ih acc h h2
      refine ⟨g1, fun s => (g2 s).trans ⟨fun e => e.imp id (List.mem_cons_of_mem _), fun e => ?_⟩⟩
      rcases e with e | e
      · exact .inl e
      · rcases List.mem_cons.1 e with e | e
        · rw [e]; exact .inl hm
        · exact .inr e
    · rw [if_neg (fun hq => by
        obtain ⟨x, hx, hs⟩ := List.any_eq_true.1 hq
        have := hn x hx
        rw [same_iff.1 hs] at this
        exact ltx_irrefl _ this)]
      obtain ⟨g1, g2⟩ := ih (acc ++ [a]) (List.pairwise_append.2 ⟨h, List.pairwise_singleton _ _, fun x hx b hb => by rw [List.mem_singleton.1 hb]; exact hn x hx⟩) h2
      refine ⟨g1, fun s => (g2 s).trans ?_⟩
      rw [List.mem_append, List.mem_singleton, List.mem_cons, or_assoc]

theorem drop_consG (y : List S26) (i : Nat) (h : i < y.length) : y.drop i = y.getD i z26 :: y.drop (i + 1) := by
  rw [List.drop_eq_getElem_cons h, getD_eqG z26 y i h]
theorem l02_l1 (y out : List S26) (i : Nat) (hi : i < y.length) (hy : y.length ≤ 1000) (ho : out.length ≤ 1000) : ∀ d j (fr : Bool), out.length - j = d → j ≤ out.length → ∀ r,
    Ev (fun k => spec_l02Turns.l0 k y (if (fr && !((out.drop j).any fun x => same x (y.getD i z26))) = true then out ++ [y.getD i z26] else out) ((i + 1 : Nat) : Int)) r → Ev (fun k => spec_l02Turns.l1 k y out (i : Int) fr (j : Int)) r := by
  intro d
  induction d with
  | zero =>
    intro j fr hd hj r he
    refine Ev.step (fun k => ?_) he
    rw [spec_l02Turns.l1, if_neg (by omega), List.drop_of_length_le (by omega), wN i (by omega)]
    cases fr with
    | true =>
      rw [if_pos rfl, if_pos (by omega), if_pos (by omega), if_pos (by omega)]
      rfl
    | false => rfl
  | succ d ih =>
    intro j fr hd hj r he
    rw [drop_consG out j (by omega), List.any_cons] at he
    cases fr with
    | true =>
      refine Ev.step (fun k => ?_) (ih (j + 1) (!same (out.getD j z26) (y.getD i z26)) (by omega) (by omega) r ?_)
      · rw [spec_l02Turns.l1, if_pos (by omega), if_pos rfl, if_pos (by omega), if_pos (by omega), if_pos (by omega), wN j (by omega), rdT, rdT, same_not]
      · rw [show (!same (out.getD j z26) (y.getD i z26) && !((out.drop (j + 1)).any fun x => same x (y.getD i z26))) = (true && !(same (out.getD j z26) (y.getD i z26) || (out.drop (j + 1)).any fun x => same x (y.getD i z26))) from by
          cases same (out.getD j z26) (y.getD i z26) <;> simp]
        exact he
    | false =>
      refine Ev.step (fun k => ?_) (ih (j + 1) false (by omega) (by omega) r ?_)
      · rw [spec_l02Turns.l1, if_pos (by omega), if_neg (by decide), wN j (by omega)]
      · simpa using he
theorem l02_l0 (y : List S26) (hy : y.length ≤ 900) : ∀ d i out, y.length - i = d → i ≤ y.length → out.length ≤ i → Ev (fun k => spec_l02Turns.l0 k y out (i : Int)) (ded out (y.drop i)) := by
  intro d
  induction d with
  | zero =>
    intro i out hd hi ho
    refine Ev.step (f := fun _ => some out) (fun k => ?_) ?_
    · rw [spec_l02Turns.l0, if_neg (by omega)]
    · rw [List.drop_of_length_le (by omega), ded]; exact Ev.now _
  | succ d ih =>
    intro i out hd hi ho
    rw [drop_consG y i (by omega), ded]
    refine Ev.step (f := fun k => spec_l02Turns.l1 k y out (i : Int) true ((0 : Nat) : Int)) (fun k => ?_) (l02_l1 y out i (by omega) (by omega) (by omega) _ 0 true rfl (Nat.zero_le _) _ ?_)
    · rw [spec_l02Turns.l0, if_pos (by omega)]; rfl
    · rw [List.drop_zero, Bool.true_and]
      by_cases hq : (out.any fun x => same x (y.getD i z26)) = true
      · rw [if_pos hq, hq, if_neg (by decide)]
        exact ih (i + 1) out (by omega) (by omega) (by omega)
      · rw [if_neg hq, if_pos (by simpa using hq)]
        exact ih (i + 1) (out ++ [y.getD i z26]) (by omega) (by omega) (by rw [List.length_append]; simp; omega)

/-- The sides in falling order. -/
theorem sortS (a b c : Int) : ∃ p q r : Int, r ≤ q ∧ q ≤ p ∧ (∀ k, spec_l02Sort.f (k + 2) a b c = some (p, q, r)) ∧ (∀ s, s ∈ six p q r ↔ s ∈ six a b c) := by
  have e : ∀ k, spec_l02Sort.f (k + 2) a b c = if a < b then (if a < c then (if b < c then some (c, b, a) else some (b, c, a)) else (if b < a then some (a, b, c) else some (b, a, c))) else (if b < c then (if a < c then some (c, a, b) else some (a, c, b)) else (if a < b then some (b, a, c) else some (a, b, c))) := fun k => by
    rw [spec_l02Sort.f, spec_l02Sort.j0, spec_l02Sort.j0, spec_l02Sort.j1, spec_l02Sort.j1, spec_l02Sort.j1, spec_l02Sort.j1]
  have m1 : ∀ s, s ∈ six a b c ↔ s ∈ six a b c := fun s => Iff.rfl
  have m2 : ∀ s, s ∈ six b a c ↔ s ∈ six a b c := fun s => by simp only [six, List.mem_cons, List.not_mem_nil, or_false]; exact ⟨fun h => by rcases h with h | h | h | h | h | h <;> simp [h], fun h => by rcases h with h | h | h | h | h | h <;> simp [h]⟩
  have m3 : ∀ s, s ∈ six a c b ↔ s ∈ six a b c := fun s => by simp only [six, List.mem_cons, List.not_mem_nil, or_false]; exact ⟨fun h => by rcases h with h | h | h | h | h | h <;> simp [h], fun h => by rcases h with h | h | h | h | h | h <;> simp [h]⟩
  have m4 : ∀ s, s ∈ six c a b ↔ s ∈ six a b c := fun s => by simp only [six, List.mem_cons, List.not_mem_nil, or_false]; exact ⟨fun h => by rcases h with h | h | h | h | h | h <;> simp [h], fun h => by rcases h with h | h | h | h | h | h <;> simp [h]⟩
  have m5 : ∀ s, s ∈ six b c a ↔ s ∈ six a b c := fun s => by simp only [six, List.mem_cons, List.not_mem_nil, or_false]; exact ⟨fun h => by rcases h with h | h | h | h | h | h <;> simp [h], fun h => by rcases h with h | h | h | h | h | h <;> simp [h]⟩
  have m6 : ∀ s, s ∈ six c b a ↔ s ∈ six a b c := fun s => by simp only [six, List.mem_cons, List.not_mem_nil, or_false]; exact ⟨fun h => by rcases h with h | h | h | h | h | h <;> simp [h], fun h => by rcases h with h | h | h | h | h | h <;> simp [h]⟩
  by_cases h1 : a < b
  · by_cases h2 : a < c
    · by_cases h3 : b < c
      · exact ⟨c, b, a, by omega, by omega, fun k => by rw [e, if_pos h1, if_pos h2, if_pos h3], m6⟩
      · exact ⟨b, c, a, by omega, by omega, fun k => by rw [e, if_pos h1, if_pos h2, if_neg h3], m5⟩
    · exact ⟨b, a, c, by omega, by omega, fun k => by rw [e, if_pos h1, if_neg h2, if_neg (by omega)], m2⟩
  · by_cases h2 : b < c
    · by_cases h3 : a < c
      · exact ⟨c, a, b, by omega, by omega, fun k => by rw [e, if_neg h1, if_pos h2, if_pos h3], m4⟩
      · exact ⟨a, c, b, by omega, by omega, fun k => by rw [e, if_neg h1, if_pos h2, if_neg h3], m3⟩
    · exact ⟨a, b, c, by omega, by omega, fun k => by rw [e, if_neg h1, if_neg h2, if_neg h1], m1⟩
/-- Both sides come to one rising list of the six orders, of which the sorted box is the last. -/
theorem turnsB (a b c : Int) : ∃ (l : List S26) (p q r : Int), l.Pairwise ltx ∧ (∀ s, s ∈ l ↔ s ∈ six a b c) ∧ Ev (fun k => impl_Box_turns.f k a b c) l ∧ Ev (fun k => spec_l02Turns.f k a b c) l ∧
    (∀ k, spec_l02Sort.f (k + 2) a b c = some (p, q, r)) ∧ 1 ≤ l.length ∧ l.length ≤ 900 ∧ l.getD (l.length - 1) z26 = ⟨p, q, r⟩ := by
  obtain ⟨l, h1, h2, h3⟩ := turnsI a b c
  obtain ⟨p, q, r, o1, o2, hs, hm⟩ := sortS a b c
  obtain ⟨al, hal⟩ : ∃ al : List S26, al = [⟨r, q, p⟩, ⟨r, p, q⟩, ⟨q, r, p⟩, ⟨q, p, r⟩, ⟨p, r, q⟩, ⟨p, q, r⟩] := ⟨_, rfl⟩
  have hall : al.length = 6 := by rw [hal]; rfl
  have hw : Good [] al := by
    rw [hal]
    by_cases e1 : r = q
    · subst e1
      by_cases e2 : r = p
      · subst e2
        simp [Good]
      · have e3 : r < p := by omega
        simp [Good, ltx, e3]
    · have e3 : r < q := by omega
      by_cases e2 : q = p
      · subst e2
        simp [Good, ltx, e3]
      · have e4 : q < p := by omega
        have e5 : r < p := by omega
        simp [Good, ltx, e3, e4, e5]
  obtain ⟨g1, g2⟩ := ded_spec al [] List.Pairwise.nil hw
  have hmem : ∀ s, s ∈ al ↔ s ∈ six a b c := fun s => by
    rw [← hm s, hal]
    simp only [six, List.mem_cons, List.not_mem_nil, or_false]
    exact ⟨fun h => by rcases h with h | h | h | h | h | h <;> simp [h], fun h => by rcases h with h | h | h | h | h | h <;> simp [h]⟩
  have hd : ded [] al = l := rise_uniq _ _ g1 h1 (fun s => by rw [g2 s, h2 s, ← hmem s]; simp)
  have h4 : Ev (fun k => spec_l02Turns.f k a b c) l := by
    obtain ⟨K, hK⟩ := EvG (l02_l0 al (by omega) _ 0 [] rfl (Nat.zero_le _) (Nat.le_refl _))
    refine EvI (K + 2) fun k hk => ?_
    obtain ⟨m, rfl⟩ : ∃ m, k = m + 2 := ⟨k - 2, by omega⟩
    rw [spec_l02Turns.f, hs, Option.bind_some]
    show spec_l02Turns.l0 (m + 2) [⟨r, q, p⟩, ⟨r, p, q⟩, ⟨q, r, p⟩, ⟨q, p, r⟩, ⟨p, r, q⟩, ⟨p, q, r⟩] [] ((0 : Nat) : Int) = _
    rw [← hal, hK _ (by omega), List.drop_zero, hd]
  have hlast : (⟨p, q, r⟩ : S26) ∈ l := by rw [h2, ← hmem, hal]; simp
  have hpos : 1 ≤ l.length := List.length_pos_of_mem hlast
  have hle : l.length ≤ 900 := by
    have hdl : ∀ (x acc : List S26), (ded acc x).length ≤ acc.length + x.length := by
      intro x
      induction x with
      | nil => intro acc; simp [ded]
      | cons t x ih =>
        intro acc
        rw [ded]
        split
        · have := ih acc; simp; omega
        · have := ih (acc ++ [t]); simp at this ⊢; omega
    have := hdl al []
    rw [hd, hall] at this
    simp at this; omega
  refine ⟨l, p, q, r, h1, h2, h3, h4, hs, hpos, hle, ?_⟩
  obtain ⟨i, hi, hie⟩ := (mem_getDG z26 l _).1 hlast
  by_cases e : i = l.length - 1
  · rw [← e, hie]
  · exfalso
    have hlt := List.pairwise_iff_getElem.1 h1 i (l.length - 1) hi (by omega) (by omega)
    rw [← getD_eqG z26 l i hi, ← getD_eqG z26 l _ (by omega), hie] at hlt
    have hin : l.getD (l.length - 1) z26 ∈ al := by rw [hmem, ← h2, getD_eqG z26 l _ (by omega)]; exact List.getElem_mem _
    rw [hal] at hin
    generalize l.getD (l.length - 1) z26 = s at hlt hin
    simp only [List.mem_cons, List.not_mem_nil, or_false] at hin
    unfold ltx at hlt
    rcases hin with rfl | rfl | rfl | rfl | rfl | rfl <;> simp only at hlt <;> omega

end Go.Proofs.Ytmbbkaoccmokeaa.Pure

namespace Go.Proofs.Ytmbbkaoccmokeaa.P
open Go.RowKit Go.Proofs.YtmbbkaoccmokeaaW.PrintWords Go.Proofs.YtmbbkaoccmokeaaW.PrintLast Go.Proofs.YtmbbkaoccmokeaaW.PrintMore
attribute [local go_sem] max2_int min2_int max_two min_two max_three min_three max_four min_four   -- for this text's walks alone
set_option linter.unusedVariables false
set_option linter.unusedSimpArgs false

/-! ### laws_eqBox: function 22 -/
def laws_eqBox.f (a0_0 : Int) (a0_1 : Int) (a0_2 : Int) (a1_0 : Int) (a1_1 : Int) (a1_2 : Int) : Option (Bool) := if a0_0 = a1_0 then (if a0_1 = a1_1 then (if a0_2 = a1_2 then (some true) else (some false)) else (some false)) else (some false)
set_option maxHeartbeats 8000000 in
set_option maxRecDepth 100000 in
theorem laws_eqBox.calls (a0_0 : Int) (a0_1 : Int) (a0_2 : Int) (a1_0 : Int) (a1_1 : Int) (a1_2 : Int) (r : Bool) (w : World) (h : laws_eqBox.f a0_0 a0_1 a0_2 a1_0 a1_1 a1_2 = some r) :
    Calls Try.prog 22 #[.agg #[.int .i8 a0_0, .int .i8 a0_1, .int .i8 a0_2], .agg #[.int .i8 a1_0, .int .i8 a1_1, .int .i8 a1_2]] w fun e w' => e = .returned (.bool r) ∧ Below w.heap.size w w' := by
  have hu26 := Try.underlying26
  have HB := Aside0.mk (Below.refl w.heap.size w)
  have H : (if a0_0 = a1_0 then (if a0_1 = a1_1 then (if a0_2 = a1_2 then (some true) else (some false)) else (some false)) else (some false)) = some r := h
  clear h
  by_cases c3 : a0_0 = a1_0
  · rw [if_pos c3] at H
    have c3b0 : (a0_0 == a1_0) = true := beq_iff_eq.mpr c3
    have c3b1 : (a0_0 != a1_0) = false := bne_eq_false_iff_eq.mpr c3
    clear c3
    by_cases c4 : a0_1 = a1_1
    · rw [if_pos c4] at H
      have c4b0 : (a0_1 == a1_1) = true := beq_iff_eq.mpr c4
      have c4b1 : (a0_1 != a1_1) = false := bne_eq_false_iff_eq.mpr c4
      clear c4
      by_cases c5 : a0_2 = a1_2
      · rw [if_pos c5] at H
        have c5b0 : (a0_2 == a1_2) = true := beq_iff_eq.mpr c5
        have c5b1 : (a0_2 != a1_2) = false := bne_eq_false_iff_eq.mpr c5
        clear c5
        obtain rfl := Option.some.inj H
        go_enter Try.func22, Try.ntmps22
        go_wp2_with (first | ((with_reducible refine gate_dst (N := 2) rfl ?_); refine box_event ?hg (N := 2) ?hd (cs := #[.int .i8 a0_0, .int .i8 a0_1, .int .i8 a0_2]) (t := 26) ?hr ?_; (case hd => rfl); (case hg => rfl); (case hr => first | (go_simp; done) | (go_simp; rfl)); intro gb200 hg w6 hbox hb; have n0_ := Aside0.mk (below_step (by repeat (first | (with_reducible first | exact HB.out | apply below_alloc | apply pw_below_drewN | apply below_drew1) | exact HB.out)) hb); have n1_ := Aside0.mk (hbox); have n2_ := Aside0.mk ((by rw [hg]; exact (below_size (by repeat (first | (with_reducible first | exact HB.out | apply below_alloc | apply pw_below_drewN | apply below_drew1) | exact HB.out))) : w.heap.size ≤ gb200)); have n3_ := Aside0.mk ((by rw [hg]; exact (below_size (by repeat (first | (with_reducible first | exact HB.out | apply below_alloc | apply pw_below_drewN | apply below_drew1) | exact HB.out))) : w.heap.size ≤ gb200)); clear HB; have HB := n0_; have BK200 := n1_; have GW200 := n2_; have GE200 := n3_; clear n0_ n1_ n2_ n3_; clear hb hbox hg) | ((with_reducible refine gate_dst (N := 3) rfl ?_); refine box_event ?hg (N := 3) ?hd (cs := #[.int .i8 a1_0, .int .i8 a1_1, .int .i8 a1_2]) (t := 26) ?hr ?_; (case hd => rfl); (case hg => rfl); (case hr => first | (go_simp; done) | (go_simp; rfl)); intro gb201 hg w7 hbox hb; have n0_ := Aside0.mk (blk_below (g := gb200) (o := .cells #[.int .i8 a0_0, .int .i8 a0_1, .int .i8 a0_2] 26 (0, 0)) (by (with_reducible repeat (first | refine blk_drewN ?_ _ | refine blk_drew ?_ | refine blk_alloc ?_ _)); exact BK200.out) hb); have n1_ := Aside0.mk (below_step (by repeat (first | (with_reducible first | exact HB.out | apply below_alloc | apply pw_below_drewN | apply below_drew1 | refine below_set ?_ GE200.out) | exact HB.out)) hb); have n2_ := Aside0.mk (hbox); have n3_ := Aside0.mk ((by rw [hg]; exact (below_size (by repeat (first | (with_reducible first | exact HB.out | apply below_alloc | apply pw_below_drewN | apply below_drew1 | refine below_set ?_ GE200.out) | exact HB.out))) : w.heap.size ≤ gb201)); have n4_ := Aside0.mk ((by rw [hg]; exact (below_size (by repeat (first | (with_reducible first | exact HB.out | apply below_alloc | apply pw_below_drewN | apply below_drew1 | refine below_set ?_ GE200.out) | exact HB.out))) : w.heap.size ≤ gb201)); have n5_ := Aside0.mk ((by rw [hg]; exact Nat.ne_of_lt (blk_lt (g := gb200) (o := .cells #[.int .i8 a0_0, .int .i8 a0_1, .int .i8 a0_2] 26 (0, 0)) (by (with_reducible repeat (first | refine blk_drewN ?_ _ | refine blk_drew ?_ | refine blk_alloc ?_ _)); exact BK200.out)) : gb200 ≠ gb201)); have n6_ := Aside0.mk ((by rw [hg]; exact Nat.ne_of_gt (blk_lt (g := gb200) (o := .cells #[.int .i8 a0_0, .int .i8 a0_1, .int .i8 a0_2] 26 (0, 0)) (by (with_reducible repeat (first | refine blk_drewN ?_ _ | refine blk_drew ?_ | refine blk_alloc ?_ _)); exact BK200.out)) : gb201 ≠ gb200)); clear BK200; clear HB; have BK200 := n0_; have HB := n1_; have BK201 := n2_; have GW201 := n3_; have GE201 := n4_; have NB200_201 := n5_; have NB201_200 := n6_; clear n0_ n1_ n2_ n3_ n4_ n5_ n6_; clear hb hbox hg; have hnb8 := NB200_201.out; have hnc8 := NB201_200.out; have hcz9_0 : w7.cell? ⟨gb200, 0, none⟩ = some (.int .i8 a0_0) := (blk_cell BK200.out 0).trans rfl; have hcz9_1 : w7.cell? ⟨gb200, 1, none⟩ = some (.int .i8 a0_1) := (blk_cell BK200.out 1).trans rfl; have hcz9_2 : w7.cell? ⟨gb200, 2, none⟩ = some (.int .i8 a0_2) := (blk_cell BK200.out 2).trans rfl; have hfz9_0 := blk_frozen BK200.out 0; have hfz9_1 := blk_frozen BK200.out 1; have hfz9_2 := blk_frozen BK200.out 2; have hcz10_0 : w7.cell? ⟨gb201, 0, none⟩ = some (.int .i8 a1_0) := (blk_cell BK201.out 0).trans rfl; have hcz10_1 : w7.cell? ⟨gb201, 1, none⟩ = some (.int .i8 a1_1) := (blk_cell BK201.out 1).trans rfl; have hcz10_2 : w7.cell? ⟨gb201, 2, none⟩ = some (.int .i8 a1_2) := (blk_cell BK201.out 2).trans rfl; have hfz10_0 := blk_frozen BK201.out 0; have hfz10_1 := blk_frozen BK201.out 1; have hfz10_2 := blk_frozen BK201.out 2))
        go_ret
        exact ⟨by first | rfl | (simp [errW_none, errW_some] <;> rfl) | (simp [*, errW_none, errW_some] <;> rfl), by repeat (first | (with_reducible first | exact HB.out | apply below_alloc | apply pw_below_drewN | apply below_drew1 | refine below_set ?_ GE200.out | refine below_set ?_ GE201.out) | exact HB.out)⟩
      · rw [if_neg c5] at H
        have c5b0 : (a0_2 == a1_2) = false := beq_eq_false_iff_ne.mpr c5
        have c5b1 : (a0_2 != a1_2) = true := bne_iff_ne.mpr c5
        obtain rfl := Option.some.inj H
        go_enter Try.func22, Try.ntmps22
        go_wp2_with (first | ((with_reducible refine gate_dst (N := 2) rfl ?_); refine box_event ?hg (N := 2) ?hd (cs := #[.int .i8 a0_0, .int .i8 a0_1, .int .i8 a0_2]) (t := 26) ?hr ?_; (case hd => rfl); (case hg => rfl); (case hr => first | (go_simp; done) | (go_simp; rfl)); intro gb200 hg w11 hbox hb; have n0_ := Aside0.mk (below_step (by repeat (first | (with_reducible first | exact HB.out | apply below_alloc | apply pw_below_drewN | apply below_drew1) | exact HB.out)) hb); have n1_ := Aside0.mk (hbox); have n2_ := Aside0.mk ((by rw [hg]; exact (below_size (by repeat (first | (with_reducible first | exact HB.out | apply below_alloc | apply pw_below_drewN | apply below_drew1) | exact HB.out))) : w.heap.size ≤ gb200)); have n3_ := Aside0.mk ((by rw [hg]; exact (below_size (by repeat (first | (with_reducible first | exact HB.out | apply below_alloc | apply pw_below_drewN | apply below_drew1) | exact HB.out))) : w.heap.size ≤ gb200)); clear HB; have HB := n0_; have BK200 := n1_; have GW200 := n2_; have GE200 := n3_; clear n0_ n1_ n2_ n3_; clear hb hbox hg) | ((with_reducible refine gate_dst (N := 3) rfl ?_); refine box_event ?hg (N := 3) ?hd (cs := #[.int .i8 a1_0, .int .i8 a1_1, .int .i8 a1_2]) (t := 26) ?hr ?_; (case hd => rfl); (case hg => rfl); (case hr => first | (go_simp; done) | (go_simp; rfl)); intro gb201 hg w12 hbox hb; have n0_ := Aside0.mk (blk_below (g := gb200) (o := .cells #[.int .i8 a0_0, .int .i8 a0_1, .int .i8 a0_2] 26 (0, 0)) (by (with_reducible repeat (first | refine blk_drewN ?_ _ | refine blk_drew ?_ | refine blk_alloc ?_ _)); exact BK200.out) hb); have n1_ := Aside0.mk (below_step (by repeat (first | (with_reducible first | exact HB.out | apply below_alloc | apply pw_below_drewN | apply below_drew1 | refine below_set ?_ GE200.out) | exact HB.out)) hb); have n2_ := Aside0.mk (hbox); have n3_ := Aside0.mk ((by rw [hg]; exact (below_size (by repeat (first | (with_reducible first | exact HB.out | apply below_alloc | apply pw_below_drewN | apply below_drew1 | refine below_set ?_ GE200.out) | exact HB.out))) : w.heap.size ≤ gb201)); have n4_ := Aside0.mk ((by rw [hg]; exact (below_size (by repeat (first | (with_reducible first | exact HB.out | apply below_alloc | apply pw_below_drewN | apply below_drew1 | refine below_set ?_ GE200.out) | exact HB.out))) : w.heap.size ≤ gb201)); have n5_ := Aside0.mk ((by rw [hg]; exact Nat.ne_of_lt (blk_lt (g := gb200) (o := .cells #[.int .i8 a0_0, .int .i8 a0_1, .int .i8 a0_2] 26 (0, 0)) (by (with_reducible repeat (first | refine blk_drewN ?_ _ | refine blk_drew ?_ | refine blk_alloc ?_ _)); exact BK200.out)) : gb200 ≠ gb201)); have n6_ := Aside0.mk ((by rw [hg]; exact Nat.ne_of_gt (blk_lt (g := gb200) (o := .cells #[.int .i8 a0_0, .int .i8 a0_1, .int .i8 a0_2] 26 (0, 0)) (by (with_reducible repeat (first | refine blk_drewN ?_ _ | refine blk_drew ?_ | refine blk_alloc ?_ _)); exact BK200.out)) : gb201 ≠ gb200)); clear BK200; clear HB; have BK200 := n0_; have HB := n1_; have BK201 := n2_; have GW201 := n3_; have GE201 := n4_; have NB200_201 := n5_; have NB201_200 := n6_; clear n0_ n1_ n2_ n3_ n4_ n5_ n6_; clear hb hbox hg; have hnb13 := NB200_201.out; have hnc13 := NB201_200.out; have hcz14_0 : w12.cell? ⟨gb200, 0, none⟩ = some (.int .i8 a0_0) := (blk_cell BK200.out 0).trans rfl; have hcz14_1 : w12.cell? ⟨gb200, 1, none⟩ = some (.int .i8 a0_1) := (blk_cell BK200.out 1).trans rfl; have hcz14_2 : w12.cell? ⟨gb200, 2, none⟩ = some (.int .i8 a0_2) := (blk_cell BK200.out 2).trans rfl; have hfz14_0 := blk_frozen BK200.out 0; have hfz14_1 := blk_frozen BK200.out 1; have hfz14_2 := blk_frozen BK200.out 2; have hcz15_0 : w12.cell? ⟨gb201, 0, none⟩ = some (.int .i8 a1_0) := (blk_cell BK201.out 0).trans rfl; have hcz15_1 : w12.cell? ⟨gb201, 1, none⟩ = some (.int .i8 a1_1) := (blk_cell BK201.out 1).trans rfl; have hcz15_2 : w12.cell? ⟨gb201, 2, none⟩ = some (.int .i8 a1_2) := (blk_cell BK201.out 2).trans rfl; have hfz15_0 := blk_frozen BK201.out 0; have hfz15_1 := blk_frozen BK201.out 1; have hfz15_2 := blk_frozen BK201.out 2))
        go_ret
        exact ⟨by first | rfl | (simp [errW_none, errW_some] <;> rfl) | (simp [*, errW_none, errW_some] <;> rfl), by repeat (first | (with_reducible first | exact HB.out | apply below_alloc | apply pw_below_drewN | apply below_drew1 | refine below_set ?_ GE200.out | refine below_set ?_ GE201.out) | exact HB.out)⟩
    · rw [if_neg c4] at H
      have c4b0 : (a0_1 == a1_1) = false := beq_eq_false_iff_ne.mpr c4
      have c4b1 : (a0_1 != a1_1) = true := bne_iff_ne.mpr c4
      obtain rfl := Option.some.inj H
      go_enter Try.func22, Try.ntmps22
      go_wp2_with (first | ((with_reducible refine gate_dst (N := 2) rfl ?_); refine box_event ?hg (N := 2) ?hd (cs := #[.int .i8 a0_0, .int .i8 a0_1, .int .i8 a0_2]) (t := 26) ?hr ?_; (case hd => rfl); (case hg => rfl); (case hr => first | (go_simp; done) | (go_simp; rfl)); intro gb200 hg w16 hbox hb; have n0_ := Aside0.mk (below_step (by repeat (first | (with_reducible first | exact HB.out | apply below_alloc | apply pw_below_drewN | apply below_drew1) | exact HB.out)) hb); have n1_ := Aside0.mk (hbox); have n2_ := Aside0.mk ((by rw [hg]; exact (below_size (by repeat (first | (with_reducible first | exact HB.out | apply below_alloc | apply pw_below_drewN | apply below_drew1) | exact HB.out))) : w.heap.size ≤ gb200)); have n3_ := Aside0.mk ((by rw [hg]; exact (below_size (by repeat (first | (with_reducible first | exact HB.out | apply below_alloc | apply pw_below_drewN | apply below_drew1) | exact HB.out))) : w.heap.size ≤ gb200)); clear HB; have HB := n0_; have BK200 := n1_; have GW200 := n2_; have GE200 := n3_; clear n0_ n1_ n2_ n3_; clear hb hbox hg) | ((with_reducible refine gate_dst (N := 3) rfl ?_); refine box_event ?hg (N := 3) ?hd (cs := #[.int .i8 a1_0, .int .i8 a1_1, .int .i8 a1_2]) (t := 26) ?hr ?_; (case hd => rfl); (case hg => rfl); (case hr => first | (go_simp; done) | (go_simp; rfl)); intro gb201 hg w17 hbox hb; have n0_ := Aside0.mk (blk_below (g := gb200) (o := .cells #[.int .i8 a0_0, .int .i8 a0_1, .int .i8 a0_2] 26 (0, 0)) (by (with_reducible repeat (first | refine blk_drewN ?_ _ | refine blk_drew ?_ | refine blk_alloc ?_ _)); exact BK200.out) hb); have n1_ := Aside0.mk (below_step (by repeat (first | (with_reducible first | exact HB.out | apply below_alloc | apply pw_below_drewN | apply below_drew1 | refine below_set ?_ GE200.out) | exact HB.out)) hb); have n2_ := Aside0.mk (hbox); have n3_ := Aside0.mk ((by rw [hg]; exact (below_size (by repeat (first | (with_reducible first | exact HB.out | apply below_alloc | apply pw_below_drewN | apply below_drew1 | refine below_set ?_ GE200.out) | exact HB.out))) : w.heap.size ≤ gb201)); have n4_ := Aside0.mk ((by rw [hg]; exact (below_size (by repeat (first | (with_reducible first | exact HB.out | apply below_alloc | apply pw_below_drewN | apply below_drew1 | refine below_set ?_ GE200.out) | exact HB.out))) : w.heap.size ≤ gb201)); have n5_ := Aside0.mk ((by rw [hg]; exact Nat.ne_of_lt (blk_lt (g := gb200) (o := .cells #[.int .i8 a0_0, .int .i8 a0_1, .int .i8 a0_2] 26 (0, 0)) (by (with_reducible repeat (first | refine blk_drewN ?_ _ | refine blk_drew ?_ | refine blk_alloc ?_ _)); exact BK200.out)) : gb200 ≠ gb201)); have n6_ := Aside0.mk ((by rw [hg]; exact Nat.ne_of_gt (blk_lt (g := gb200) (o := .cells #[.int .i8 a0_0, .int .i8 a0_1, .int .i8 a0_2] 26 (0, 0)) (by (with_reducible repeat (first | refine blk_drewN ?_ _ | refine blk_drew ?_ | refine blk_alloc ?_ _)); exact BK200.out)) : gb201 ≠ gb200)); clear BK200; clear HB; have BK200 := n0_; have HB := n1_; have BK201 := n2_; have GW201 := n3_; have GE201 := n4_; have NB200_201 := n5_; have NB201_200 := n6_; clear n0_ n1_ n2_ n3_ n4_ n5_ n6_; clear hb hbox hg; have hnb18 := NB200_201.out; have hnc18 := NB201_200.out; have hcz19_0 : w17.cell? ⟨gb200, 0, none⟩ = some (.int .i8 a0_0) := (blk_cell BK200.out 0).trans rfl; have hcz19_1 : w17.cell? ⟨gb200, 1, none⟩ = some (.int .i8 a0_1) := (blk_cell BK200.out 1).trans rfl; have hcz19_2 : w17.cell? ⟨gb200, 2, none⟩ = some (.int .i8 a0_2) := (blk_cell BK200.out 2).trans rfl; have hfz19_0 := blk_frozen BK200.out 0; have hfz19_1 := blk_frozen BK200.out 1; have hfz19_2 := blk_frozen BK200.out 2; have hcz20_0 : w17.cell? ⟨gb201, 0, none⟩ = some (.int .i8 a1_0) := (blk_cell BK201.out 0).trans rfl; have hcz20_1 : w17.cell? ⟨gb201, 1, none⟩ = some (.int .i8 a1_1) := (blk_cell BK201.out 1).trans rfl; have hcz20_2 : w17.cell? ⟨gb201, 2, none⟩ = some (.int .i8 a1_2) := (blk_cell BK201.out 2).trans rfl; have hfz20_0 := blk_frozen BK201.out 0; have hfz20_1 := blk_frozen BK201.out 1; have hfz20_2 := blk_frozen BK201.out 2))
      go_ret
      exact ⟨by first | rfl | (simp [errW_none, errW_some] <;> rfl) | (simp [*, errW_none, errW_some] <;> rfl), by repeat (first | (with_reducible first | exact HB.out | apply below_alloc | apply pw_below_drewN | apply below_drew1 | refine below_set ?_ GE200.out | refine below_set ?_ GE201.out) | exact HB.out)⟩
  · rw [if_neg c3] at H
    have c3b0 : (a0_0 == a1_0) = false := beq_eq_false_iff_ne.mpr c3
    have c3b1 : (a0_0 != a1_0) = true := bne_iff_ne.mpr c3
    obtain rfl := Option.some.inj H
    go_enter Try.func22, Try.ntmps22
    go_wp2_with (first | ((with_reducible refine gate_dst (N := 2) rfl ?_); refine box_event ?hg (N := 2) ?hd (cs := #[.int .i8 a0_0, .int .i8 a0_1, .int .i8 a0_2]) (t := 26) ?hr ?_; (case hd => rfl); (case hg => rfl); (case hr => first | (go_simp; done) | (go_simp; rfl)); intro gb200 hg w21 hbox hb; have n0_ := Aside0.mk (below_step (by repeat (first | (with_reducible first | exact HB.out | apply below_alloc | apply pw_below_drewN | apply below_drew1) | exact HB.out)) hb); have n1_ := Aside0.mk (hbox); have n2_ := Aside0.mk ((by rw [hg]; exact (below_size (by repeat (first | (with_reducible first | exact HB.out | apply below_alloc | apply pw_below_drewN | apply below_drew1) | exact HB.out))) : w.heap.size ≤ gb200)); have n3_ := Aside0.mk ((by rw [hg]; exact (below_size (by repeat (first | (with_reducible first | exact HB.out | apply below_alloc | apply pw_below_drewN | apply below_drew1) | exact HB.out))) : w.heap.size ≤ gb200)); clear HB; have HB := n0_; have BK200 := n1_; have GW200 := n2_; have GE200 := n3_; clear n0_ n1_ n2_ n3_; clear hb hbox hg) | ((with_reducible refine gate_dst (N := 3) rfl ?_); refine box_event ?hg (N := 3) ?hd (cs := #[.int .i8 a1_0, .int .i8 a1_1, .int .i8 a1_2]) (t := 26) ?hr ?_; (case hd => rfl); (case hg => rfl); (case hr => first | (go_simp; done) | (go_simp; rfl)); intro gb201 hg w22 hbox hb; have n0_ := Aside0.mk (blk_below (g := gb200) (o := .cells #[.int .i8 a0_0, .int .i8 a0_1, .int .i8 a0_2] 26 (0, 0)) (by (with_reducible repeat (first | refine blk_drewN ?_ _ | refine blk_drew ?_ | refine blk_alloc ?_ _)); exact BK200.out) hb); have n1_ := Aside0.mk (below_step (by repeat (first | (with_reducible first | exact HB.out | apply below_alloc | apply pw_below_drewN | apply below_drew1 | refine below_set ?_ GE200.out) | exact HB.out)) hb); have n2_ := Aside0.mk (hbox); have n3_ := Aside0.mk ((by rw [hg]; exact (below_size (by repeat (first | (with_reducible first | exact HB.out | apply below_alloc | apply pw_below_drewN | apply below_drew1 | refine below_set ?_ GE200.out) | exact HB.out))) : w.heap.size ≤ gb201)); have n4_ := Aside0.mk ((by rw [hg]; exact (below_size (by repeat (first | (with_reducible first | exact HB.out | apply below_alloc | apply pw_below_drewN | apply below_drew1 | refine below_set ?_ GE200.out) | exact HB.out))) : w.heap.size ≤ gb201)); have n5_ := Aside0.mk ((by rw [hg]; exact Nat.ne_of_lt (blk_lt (g := gb200) (o := .cells #[.int .i8 a0_0, .int .i8 a0_1, .int .i8 a0_2] 26 (0, 0)) (by (with_reducible repeat (first | refine blk_drewN ?_ _ | refine blk_drew ?_ | refine blk_alloc ?_ _)); exact BK200.out)) : gb200 ≠ gb201)); have n6_ := Aside0.mk ((by rw [hg]; exact Nat.ne_of_gt (blk_lt (g := gb200) (o := .cells #[.int .i8 a0_0, .int .i8 a0_1, .int .i8 a0_2] 26 (0, 0)) (by (with_reducible repeat (first | refine blk_drewN ?_ _ | refine blk_drew ?_ | refine blk_alloc ?_ _)); exact BK200.out)) : gb201 ≠ gb200)); clear BK200; clear HB; have BK200 := n0_; have HB := n1_; have BK201 := n2_; have GW201 := n3_; have GE201 := n4_; have NB200_201 := n5_; have NB201_200 := n6_; clear n0_ n1_ n2_ n3_ n4_ n5_ n6_; clear hb hbox hg; have hnb23 := NB200_201.out; have hnc23 := NB201_200.out; have hcz24_0 : w22.cell? ⟨gb200, 0, none⟩ = some (.int .i8 a0_0) := (blk_cell BK200.out 0).trans rfl; have hcz24_1 : w22.cell? ⟨gb200, 1, none⟩ = some (.int .i8 a0_1) := (blk_cell BK200.out 1).trans rfl; have hcz24_2 : w22.cell? ⟨gb200, 2, none⟩ = some (.int .i8 a0_2) := (blk_cell BK200.out 2).trans rfl; have hfz24_0 := blk_frozen BK200.out 0; have hfz24_1 := blk_frozen BK200.out 1; have hfz24_2 := blk_frozen BK200.out 2; have hcz25_0 : w22.cell? ⟨gb201, 0, none⟩ = some (.int .i8 a1_0) := (blk_cell BK201.out 0).trans rfl; have hcz25_1 : w22.cell? ⟨gb201, 1, none⟩ = some (.int .i8 a1_1) := (blk_cell BK201.out 1).trans rfl; have hcz25_2 : w22.cell? ⟨gb201, 2, none⟩ = some (.int .i8 a1_2) := (blk_cell BK201.out 2).trans rfl; have hfz25_0 := blk_frozen BK201.out 0; have hfz25_1 := blk_frozen BK201.out 1; have hfz25_2 := blk_frozen BK201.out 2))
    go_ret
    exact ⟨by first | rfl | (simp [errW_none, errW_some] <;> rfl) | (simp [*, errW_none, errW_some] <;> rfl), by repeat (first | (with_reducible first | exact HB.out | apply below_alloc | apply pw_below_drewN | apply below_drew1 | refine below_set ?_ GE200.out | refine below_set ?_ GE201.out) | exact HB.out)⟩

end Go.Proofs.Ytmbbkaoccmokeaa.P

namespace Go.Proofs.Ytmbbkaoccmokeaa.P
open Go.RowKit Go.Proofs.YtmbbkaoccmokeaaW.PrintWords Go.Proofs.YtmbbkaoccmokeaaW.PrintLast Go.Proofs.YtmbbkaoccmokeaaW.PrintMore
attribute [local go_sem] max2_int min2_int max_two min_two max_three min_three max_four min_four   -- for this text's walks alone
set_option linter.unusedVariables false
set_option linter.unusedSimpArgs false

/-! ### laws_eqBoxS: function 25 -/
def laws_eqBoxS.l0 : Nat → List (S26) → List (S26) → Int → Option (Bool)
  | 0, _, _, _ => none
  | k + 1, x0, x1, x5 => if x5 < (x0.length : Int) then (if 0 ≤ x5 then (if x5 < (x1.length : Int) then ((laws_eqBox.f ((rd_T26 x0 x5).f0) ((rd_T26 x0 x5).f1) ((rd_T26 x0 x5).f2) ((rd_T26 x1 x5).f0) ((rd_T26 x1 x5).f1) ((rd_T26 x1 x5).f2)).bind fun t252 => (if t252 = true then (laws_eqBoxS.l0 k x0 x1 (wrap64 (x5 + 1))) else (some false))) else (none)) else (none)) else (some true)
def laws_eqBoxS.f (k : Nat) (l0 : List (S26)) (l1 : List (S26)) : Option (Bool) := if (l0.length : Int) = (l1.length : Int) then (laws_eqBoxS.l0 k l0 l1 0) else (some false)
theorem laws_eqBoxS.mono_l : ∀ k, (∀ y0 y1 y2, LeO (laws_eqBoxS.l0 k y0 y1 y2) (laws_eqBoxS.l0 (k + 1) y0 y1 y2))
  | 0 => fun _ _ _ r h => by simp [laws_eqBoxS.l0] at h
  | k + 1 => by
    have ih0 := laws_eqBoxS.mono_l k
    · intro y0 y1 y2
      unfold laws_eqBoxS.l0
      repeat' first
      | (with_reducible exact ih0 _ _ _)
      | (with_reducible exact LeO.refl _)
      | (with_reducible exact LeO.none _)
      | (with_reducible refine LeO.ite ?_ ?_)
      | (with_reducible refine LeO.bind ?_ (fun _ => ?_))
      | exact ih0 _ _ _
      | exact LeO.none _
      | refine LeO.ite ?_ ?_
      | refine LeO.bind ?_ (fun _ => ?_)
theorem laws_eqBoxS.mono : ∀ a0 a1 k, LeO (laws_eqBoxS.f k a0 a1) (laws_eqBoxS.f (k + 1) a0 a1) := by
  intro a0 a1 k
  have ih0 := laws_eqBoxS.mono_l k
  unfold laws_eqBoxS.f
  repeat' first
      | (with_reducible exact ih0 _ _ _)
      | (with_reducible exact LeO.refl _)
      | (with_reducible exact LeO.none _)
      | (with_reducible refine LeO.ite ?_ ?_)
      | (with_reducible refine LeO.bind ?_ (fun _ => ?_))
      | exact ih0 _ _ _
      | exact LeO.none _
      | refine LeO.ite ?_ ?_
      | refine LeO.bind ?_ (fun _ => ?_)
def laws_eqBoxS.T6 : Bool × List (List Nat × List Nat) := (true, [([], []), ([], []), ([0, 1], [0, 1]), ([2], [2]), ([], []), ([], []), ([4, 5], [4, 5]), ([6], [6]), ([3, 7], [3, 7]), ([8], [8])])
def laws_eqBoxS.B6 : List Nat := [0, 0, 3, 7, 0, 0, 48, 112, 255, 511]
theorem laws_eqBoxS.tab6 : rtab .any (opsOf Try.f25 6) = laws_eqBoxS.T6 := by kernel_rfl
theorem laws_eqBoxS.bits6 : waitsOk laws_eqBoxS.T6.2 laws_eqBoxS.B6 = true := by kernel_rfl
set_option maxHeartbeats 8000000 in
set_option maxRecDepth 100000 in
theorem laws_eqBoxS.calls (k : Nat) (A0 : Option Addr) (c0 : Nat) (l0 : List (S26)) (A1 : Option Addr) (c1 : Nat) (l1 : List (S26)) (r : Bool) (w : World) (hr0 : Kd.C k26 w A0 l0.length l0) (hc0 : l0.length ≤ c0) (hr1 : Kd.C k26 w A1 l1.length l1) (hc1 : l1.length ≤ c1) (h : laws_eqBoxS.f k l0 l1 = some r) :
    Calls Try.prog 25 #[.slice A0 l0.length c0, .slice A1 l1.length c1] w fun e w' => e = .returned (.bool r) ∧ Below w.heap.size w w' := by
  have hu26 := Try.underlying26
  have HR0 := Aside0.mk hr0
  have HC0 := Aside0.mk hc0
  clear hr0 hc0
  have HR1 := Aside0.mk hr1
  have HC1 := Aside0.mk hc1
  clear hr1 hc1
  have HB := Aside0.mk (Below.refl w.heap.size w)
  have H : (if (l0.length : Int) = (l1.length : Int) then (laws_eqBoxS.l0 k l0 l1 0) else (some false)) = some r := h
  clear h
  by_cases c3 : (l0.length : Int) = (l1.length : Int)
  · rw [if_pos c3] at H
    have c3b0 : ((l0.length : Int) == (l1.length : Int)) = true := beq_iff_eq.mpr c3
    have c3b1 : ((l0.length : Int) != (l1.length : Int)) = false := bne_eq_false_iff_eq.mpr c3
    have c3b2 : (l0.length == l1.length) = true := by first | simpa using c3 | (simp at c3 ⊢; omega)
    clear c3
    have H' := Aside0.mk H
    clear H
    go_enter Try.func25, Try.ntmps25
    go_wp2
    go_loopg [5] k (fun kq v5 w' => ∃ (x5_1 : Int), v5 = .int .i64 x5_1 ∧ Aside0 (laws_eqBoxS.l0 kq l0 l1 x5_1 = some r) ∧ Aside0 (kq ≤ k) ∧ Aside0 (Below w.heap.size w w'))
    case atStart => exact ⟨(0), (by first | rfl | (simp; done) | (simp [*]; done)), H', ⟨Nat.le_refl _⟩, ⟨by repeat (first | (with_reducible first | exact HB.out | apply below_alloc | apply pw_below_drewN | apply below_drew1) | exact HB.out)⟩⟩
    case round =>
      clear H'
      try clear c1
      try clear c2
      try clear p2
      try clear c3
      try clear c3b0
      try clear c3b1
      try clear c3b2
      obtain ⟨x5_1, rfl, HA, HK1, HB⟩ := hrel
      cases gk with
      | zero => exact absurd HA.out (by simp [laws_eqBoxS.l0])
      | succ k1 =>
        have H := HA.out
        clear HA
        simp only [laws_eqBoxS.l0] at H
        by_cases c4 : x5_1 < (l0.length : Int)
        · rw [if_pos c4] at H
          have c4b0 : decide (x5_1 < (l0.length : Int)) = true := decide_eq_true c4
          clear c4
          by_cases c5 : 0 ≤ x5_1
          · rw [if_pos c5] at H
            have c5b0 : decide (0 ≤ x5_1) = true := decide_eq_true c5
            clear c5
            by_cases c6 : x5_1 < (l1.length : Int)
            · rw [if_pos c6] at H
              have c6b0 : decide (x5_1 < (l1.length : Int)) = true := decide_eq_true c6
              clear c6
              replace H := Option.bind_eq_some_iff.mp H
              obtain ⟨t252, A70, H⟩ := H
              replace H : (if t252 = true then (laws_eqBoxS.l0 k1 l0 l1 (wrap64 (x5_1 + 1))) else (some false)) = some r := H
              have A7 := Aside0.mk A70
              clear A70
              by_cases c8 : t252 = true
              · subst c8
                have H1 : (laws_eqBoxS.l0 k1 l0 l1 (wrap64 (x5_1 + 1))) = some r := by rw [if_pos rfl] at H; exact H
                clear H
                have H := H1
                clear H1
                have H' := Aside0.mk H
                clear H
                try go_wp2
                have n0_ := Aside0.mk (below_drew1 HB.out)
                clear HB
                have HB := n0_
                clear n0_
                have p250 : 0 ≤ (x5_1 : Int) := of_decide_eq_true (by first | (with_reducible assumption) | assumption)
                have q250 : x5_1 < (l0.length : Int) := of_decide_eq_true (by first | (with_reducible assumption) | assumption)
                obtain ⟨ad250, e250, hx250_0, hx250_1, hx250_2⟩ := at_T26 HR0.out x5_1 p250 q250
                have hw250_2 := hx250_2
                have hw250_1 := hx250_1
                have hw250_0 := hx250_0
                cases e250
                replace hx250_0 := (HB.out.cell (World.block_lt_of_cell? w _ hx250_0)).trans hx250_0
                replace hx250_1 := (HB.out.cell (World.block_lt_of_cell? w _ hx250_1)).trans hx250_1
                replace hx250_2 := (HB.out.cell (World.block_lt_of_cell? w _ hx250_2)).trans hx250_2
                replace p250 := eq_true p250
                replace q250 := eq_true q250
                have p251 : 0 ≤ (x5_1 : Int) := of_decide_eq_true (by first | (with_reducible assumption) | assumption)
                have q251 : x5_1 < (l1.length : Int) := of_decide_eq_true (by first | (with_reducible assumption) | assumption)
                obtain ⟨ad251, e251, hx251_0, hx251_1, hx251_2⟩ := at_T26 HR1.out x5_1 p251 q251
                have hw251_2 := hx251_2
                have hw251_1 := hx251_1
                have hw251_0 := hx251_0
                cases e251
                replace hx251_0 := (HB.out.cell (World.block_lt_of_cell? w _ hx251_0)).trans hx251_0
                replace hx251_1 := (HB.out.cell (World.block_lt_of_cell? w _ hx251_1)).trans hx251_1
                replace hx251_2 := (HB.out.cell (World.block_lt_of_cell? w _ hx251_2)).trans hx251_2
                replace p251 := eq_true p251
                replace q251 := eq_true q251
                refine start_ (n := 10) (S := fun w' => w'.cell? (ad250.add ((x5_1).toNat * 3)) = some (.int .i8 ((rd_T26 l0 x5_1).f0)) ∧ w'.cell? ⟨(ad250.add ((x5_1).toNat * 3)).block, (ad250.add ((x5_1).toNat * 3)).off + 1, none⟩ = some (.int .i8 ((rd_T26 l0 x5_1).f1)) ∧ w'.cell? ⟨(ad250.add ((x5_1).toNat * 3)).block, (ad250.add ((x5_1).toNat * 3)).off + 2, none⟩ = some (.int .i8 ((rd_T26 l0 x5_1).f2)) ∧ w'.cell? (ad251.add ((x5_1).toNat * 3)) = some (.int .i8 ((rd_T26 l1 x5_1).f0)) ∧ w'.cell? ⟨(ad251.add ((x5_1).toNat * 3)).block, (ad251.add ((x5_1).toNat * 3)).off + 1, none⟩ = some (.int .i8 ((rd_T26 l1 x5_1).f1)) ∧ w'.cell? ⟨(ad251.add ((x5_1).toNat * 3)).block, (ad251.add ((x5_1).toNat * 3)).off + 2, none⟩ = some (.int .i8 ((rd_T26 l1 x5_1).f2))) (ds := []) #[false, false, false, false, false, false, false, false, false, false] (by kernel_rfl) rfl rfl ⟨((HB.out.cell (World.block_lt_of_cell? w _ hw250_0)).trans hw250_0), ((HB.out.cell (World.block_lt_of_cell? w _ hw250_1)).trans hw250_1), ((HB.out.cell (World.block_lt_of_cell? w _ hw250_2)).trans hw250_2), ((HB.out.cell (World.block_lt_of_cell? w _ hw251_0)).trans hw251_0), ((HB.out.cell (World.block_lt_of_cell? w _ hw251_1)).trans hw251_1), ((HB.out.cell (World.block_lt_of_cell? w _ hw251_2)).trans hw251_2)⟩ (fun hHeld => ?_); refine with_tabW laws_eqBoxS.tab6 laws_eqBoxS.bits6 (fun HT_ HW_ => ?_)
                generalize wr.drew = w9 at HB hx250_0 hx250_1 hx250_2 hx251_0 hx251_1 hx251_2 hHeld ⊢
                refine pure_ (i := 0) (N := some 17) (v := ?_) (a' := ?_) #[true, false, false, false, false, false, false, false, false, false] rfl rfl (any_of HT_.out (by kernel_rfl)) (fun _ _ _ h => h) (Or.inl ⟨by rfl, ?_⟩) ?_ ?_
                rotate_left
                · intro w'
                  go_simp
                  with_reducible rfl
                rotate_left
                · simp only [Act.put, List.setIfInBounds_toArray, List.set_cons_zero, List.set_cons_succ, i64_w, i32_w]
                  rfl
                refine pure_ (i := 1) (N := some 18) (v := ?_) (a' := ?_) #[true, true, false, false, false, false, false, false, false, false] rfl rfl (any_of HT_.out (by kernel_rfl)) (fun _ _ _ h => h) (Or.inl ⟨by rfl, ?_⟩) ?_ ?_
                rotate_left
                · intro w'
                  go_simp
                  with_reducible rfl
                rotate_left
                · simp only [Act.put, List.setIfInBounds_toArray, List.set_cons_zero, List.set_cons_succ, i64_w, i32_w]
                  rfl
                refine pure_ (i := 2) (N := some 19) (v := ?_) (a' := ?_) #[true, true, true, false, false, false, false, false, false, false] rfl rfl (any_of HT_.out (by kernel_rfl)) (fun _ _ _ h => h) (Or.inl ⟨by rfl, ?_⟩) ?_ ?_
                rotate_left
                · intro w'
                  go_simp
                  with_reducible rfl
                rotate_left
                · simp only [Act.put, List.setIfInBounds_toArray, List.set_cons_zero, List.set_cons_succ, i64_w, i32_w]
                  rfl
                refine pure_ (i := 4) (N := some 21) (v := ?_) (a' := ?_) #[true, true, true, false, true, false, false, false, false, false] rfl rfl (any_of HT_.out (by kernel_rfl)) (fun _ _ _ h => h) (Or.inl ⟨by rfl, ?_⟩) ?_ ?_
                rotate_left
                · intro w'
                  go_simp
                  with_reducible rfl
                rotate_left
                · simp only [Act.put, List.setIfInBounds_toArray, List.set_cons_zero, List.set_cons_succ, i64_w, i32_w]
                  rfl
                refine pure_ (i := 5) (N := some 22) (v := ?_) (a' := ?_) #[true, true, true, false, true, true, false, false, false, false] rfl rfl (any_of HT_.out (by kernel_rfl)) (fun _ _ _ h => h) (Or.inl ⟨by rfl, ?_⟩) ?_ ?_
                rotate_left
                · intro w'
                  go_simp
                  with_reducible rfl
                rotate_left
                · simp only [Act.put, List.setIfInBounds_toArray, List.set_cons_zero, List.set_cons_succ, i64_w, i32_w]
                  rfl
                refine pure_ (i := 6) (N := some 23) (v := ?_) (a' := ?_) #[true, true, true, false, true, true, true, false, false, false] rfl rfl (any_of HT_.out (by kernel_rfl)) (fun _ _ _ h => h) (Or.inl ⟨by rfl, ?_⟩) ?_ ?_
                rotate_left
                · intro w'
                  go_simp
                  with_reducible rfl
                rotate_left
                · simp only [Act.put, List.setIfInBounds_toArray, List.set_cons_zero, List.set_cons_succ, i64_w, i32_w]
                  rfl
                refine take_ (i := 3) (N := some 20) (v := ?_) (a' := ?_) #[true, true, true, true, true, true, true, false, false, false] rfl rfl (take_ofW HT_.out HW_.out (by kernel_rfl)) (fun _ _ _ h => h) (Or.inl ⟨by rfl, ?_⟩) hHeld ?_ ?_
                rotate_left
                · rintro w' ⟨s0, s1, s2, s3, s4, s5⟩
                  go_simp
                  with_reducible rfl
                rotate_left
                · simp only [Act.put, List.setIfInBounds_toArray, List.set_cons_zero, List.set_cons_succ, i64_w, i32_w]
                  rfl
                refine take_ (i := 7) (N := some 24) (v := ?_) (a' := ?_) #[true, true, true, true, true, true, true, true, false, false] rfl rfl (take_ofW HT_.out HW_.out (by kernel_rfl)) (fun _ _ _ h => h) (Or.inl ⟨by rfl, ?_⟩) hHeld ?_ ?_
                rotate_left
                · rintro w' ⟨s0, s1, s2, s3, s4, s5⟩
                  go_simp
                  with_reducible rfl
                rotate_left
                · simp only [Act.put, List.setIfInBounds_toArray, List.set_cons_zero, List.set_cons_succ, i64_w, i32_w]
                  rfl
                refine one_ (i := 8) (N := some 25) #[true, true, true, true, true, true, true, true, true, false] rfl rfl (one_of HT_.out (by kernel_rfl)) (by decide) (fun K hK => ?_)
                refine goes_ Try.func22 (by kernel_rfl) rfl #[.agg #[.int .i8 ((rd_T26 l0 x5_1).f0), .int .i8 ((rd_T26 l0 x5_1).f1), .int .i8 ((rd_T26 l0 x5_1).f2)], .agg #[.int .i8 ((rd_T26 l1 x5_1).f0), .int .i8 ((rd_T26 l1 x5_1).f1), .int .i8 ((rd_T26 l1 x5_1).f2)]] (by rfl) rfl rfl (by (try simp only [List.map_toArray, List.map_cons, List.map_nil]); first | done | rfl | (simp only [List.length_drop, List.length_take]; rfl)) ?_
                with_reducible refine (laws_eqBox.calls ((rd_T26 l0 x5_1).f0) ((rd_T26 l0 x5_1).f1) ((rd_T26 l0 x5_1).f2) ((rd_T26 l1 x5_1).f0) ((rd_T26 l1 x5_1).f1) ((rd_T26 l1 x5_1).f2) true _ A7.out).mono ?_
                rintro e w10 ⟨rfl, hb⟩
                refine ⟨_, rfl, ?_⟩
                have n0_ := Aside0.mk (below_step (by repeat (first | (with_reducible first | exact HB.out | apply below_alloc | apply pw_below_drewN | apply below_drew1) | exact HB.out)) hb)
                clear HB
                have HB := n0_
                clear n0_
                (try clear hb)
                (try clear hb2)
                (try clear hk)
                (try clear hi)
                refine hK.out _ _ ⟨((HB.out.cell (World.block_lt_of_cell? w _ hw250_0)).trans hw250_0), ((HB.out.cell (World.block_lt_of_cell? w _ hw250_1)).trans hw250_1), ((HB.out.cell (World.block_lt_of_cell? w _ hw250_2)).trans hw250_2), ((HB.out.cell (World.block_lt_of_cell? w _ hw251_0)).trans hw251_0), ((HB.out.cell (World.block_lt_of_cell? w _ hw251_1)).trans hw251_1), ((HB.out.cell (World.block_lt_of_cell? w _ hw251_2)).trans hw251_2)⟩ (fun hHeld => ?_)
                clear hK K
                refine norm_ (a' := ?_) ?_ ?_
                rotate_left
                · show Act.put _ (some 25) _ = _
                  simp only [Act.put, List.setIfInBounds_toArray, List.set_cons_zero, List.set_cons_succ, i64_w, i32_w]
                  rfl
                refine pure_ (i := 9) (N := some 26) (v := ?_) (a' := ?_) #[true, true, true, true, true, true, true, true, true, true] rfl rfl (any_of HT_.out (by kernel_rfl)) (fun _ _ _ h => h) (Or.inl ⟨by rfl, ?_⟩) ?_ ?_
                rotate_left
                · intro w'
                  go_simp
                  with_reducible rfl
                rotate_left
                · simp only [Act.put, List.setIfInBounds_toArray, List.set_cons_zero, List.set_cons_succ, i64_w, i32_w]
                  rfl
                refine done_ (done_of HT_.out (by kernel_rfl)) ?_
                try go_wp2
                go_roundg k1
                case measure => have := HK1.out; omega
                case rel => exact ⟨(wrap64 (x5_1 + 1)), (by first | rfl | (simp; done) | (simp [*]; done)), H', ⟨by have := HK1.out; omega⟩, ⟨by repeat (first | (with_reducible first | exact HB.out | apply below_alloc | apply pw_below_drewN | apply below_drew1) | exact HB.out)⟩⟩
              · replace c8 := Bool.eq_false_iff.mpr c8
                subst c8
                have H1 : (some false) = some r := by rw [if_neg (show ¬ (false = true) by decide)] at H; exact H
                clear H
                have H := H1
                clear H1
                obtain rfl := Option.some.inj H
                try go_wp2
                have n0_ := Aside0.mk (below_drew1 HB.out)
                clear HB
                have HB := n0_
                clear n0_
                have p250 : 0 ≤ (x5_1 : Int) := of_decide_eq_true (by first | (with_reducible assumption) | assumption)
                have q250 : x5_1 < (l0.length : Int) := of_decide_eq_true (by first | (with_reducible assumption) | assumption)
                obtain ⟨ad250, e250, hx250_0, hx250_1, hx250_2⟩ := at_T26 HR0.out x5_1 p250 q250
                have hw250_2 := hx250_2
                have hw250_1 := hx250_1
                have hw250_0 := hx250_0
                cases e250
                replace hx250_0 := (HB.out.cell (World.block_lt_of_cell? w _ hx250_0)).trans hx250_0
                replace hx250_1 := (HB.out.cell (World.block_lt_of_cell? w _ hx250_1)).trans hx250_1
                replace hx250_2 := (HB.out.cell (World.block_lt_of_cell? w _ hx250_2)).trans hx250_2
                replace p250 := eq_true p250
                replace q250 := eq_true q250
                have p251 : 0 ≤ (x5_1 : Int) := of_decide_eq_true (by first | (with_reducible assumption) | assumption)
                have q251 : x5_1 < (l1.length : Int) := of_decide_eq_true (by first | (with_reducible assumption) | assumption)
                obtain ⟨ad251, e251, hx251_0, hx251_1, hx251_2⟩ := at_T26 HR1.out x5_1 p251 q251
                have hw251_2 := hx251_2
                have hw251_1 := hx251_1
                have hw251_0 := hx251_0
                cases e251
                replace hx251_0 := (HB.out.cell (World.block_lt_of_cell? w _ hx251_0)).trans hx251_0
                replace hx251_1 := (HB.out.cell (World.block_lt_of_cell? w _ hx251_1)).trans hx251_1
                replace hx251_2 := (HB.out.cell (World.block_lt_of_cell? w _ hx251_2)).trans hx251_2
                replace p251 := eq_true p251
                replace q251 := eq_true q251
                refine start_ (n := 10) (S := fun w' => w'.cell? (ad250.add ((x5_1).toNat * 3)) = some (.int .i8 ((rd_T26 l0 x5_1).f0)) ∧ w'.cell? ⟨(ad250.add ((x5_1).toNat * 3)).block, (ad250.add ((x5_1).toNat * 3)).off + 1, none⟩ = some (.int .i8 ((rd_T26 l0 x5_1).f1)) ∧ w'.cell? ⟨(ad250.add ((x5_1).toNat * 3)).block, (ad250.add ((x5_1).toNat * 3)).off + 2, none⟩ = some (.int .i8 ((rd_T26 l0 x5_1).f2)) ∧ w'.cell? (ad251.add ((x5_1).toNat * 3)) = some (.int .i8 ((rd_T26 l1 x5_1).f0)) ∧ w'.cell? ⟨(ad251.add ((x5_1).toNat * 3)).block, (ad251.add ((x5_1).toNat * 3)).off + 1, none⟩ = some (.int .i8 ((rd_T26 l1 x5_1).f1)) ∧ w'.cell? ⟨(ad251.add ((x5_1).toNat * 3)).block, (ad251.add ((x5_1).toNat * 3)).off + 2, none⟩ = some (.int .i8 ((rd_T26 l1 x5_1).f2))) (ds := []) #[false, false, false, false, false, false, false, false, false, false] (by kernel_rfl) rfl rfl ⟨((HB.out.cell (World.block_lt_of_cell? w _ hw250_0)).trans hw250_0), ((HB.out.cell (World.block_lt_of_cell? w _ hw250_1)).trans hw250_1), ((HB.out.cell (World.block_lt_of_cell? w _ hw250_2)).trans hw250_2), ((HB.out.cell (World.block_lt_of_cell? w _ hw251_0)).trans hw251_0), ((HB.out.cell (World.block_lt_of_cell? w _ hw251_1)).trans hw251_1), ((HB.out.cell (World.block_lt_of_cell? w _ hw251_2)).trans hw251_2)⟩ (fun hHeld => ?_); refine with_tabW laws_eqBoxS.tab6 laws_eqBoxS.bits6 (fun HT_ HW_ => ?_)
                generalize wr.drew = w11 at HB hx250_0 hx250_1 hx250_2 hx251_0 hx251_1 hx251_2 hHeld ⊢
                refine pure_ (i := 0) (N := some 17) (v := ?_) (a' := ?_) #[true, false, false, false, false, false, false, false, false, false] rfl rfl (any_of HT_.out (by kernel_rfl)) (fun _ _ _ h => h) (Or.inl ⟨by rfl, ?_⟩) ?_ ?_
                rotate_left
                · intro w'
                  go_simp
                  with_reducible rfl
                rotate_left
                · simp only [Act.put, List.setIfInBounds_toArray, List.set_cons_zero, List.set_cons_succ, i64_w, i32_w]
                  rfl
                refine pure_ (i := 1) (N := some 18) (v := ?_) (a' := ?_) #[true, true, false, false, false, false, false, false, false, false] rfl rfl (any_of HT_.out (by kernel_rfl)) (fun _ _ _ h => h) (Or.inl ⟨by rfl, ?_⟩) ?_ ?_
                rotate_left
                · intro w'
                  go_simp
                  with_reducible rfl
                rotate_left
                · simp only [Act.put, List.setIfInBounds_toArray, List.set_cons_zero, List.set_cons_succ, i64_w, i32_w]
                  rfl
                refine pure_ (i := 2) (N := some 19) (v := ?_) (a' := ?_) #[true, true, true, false, false, false, false, false, false, false] rfl rfl (any_of HT_.out (by kernel_rfl)) (fun _ _ _ h => h) (Or.inl ⟨by rfl, ?_⟩) ?_ ?_
                rotate_left
                · intro w'
                  go_simp
                  with_reducible rfl
                rotate_left
                · simp only [Act.put, List.setIfInBounds_toArray, List.set_cons_zero, List.set_cons_succ, i64_w, i32_w]
                  rfl
                refine pure_ (i := 4) (N := some 21) (v := ?_) (a' := ?_) #[true, true, true, false, true, false, false, false, false, false] rfl rfl (any_of HT_.out (by kernel_rfl)) (fun _ _ _ h => h) (Or.inl ⟨by rfl, ?_⟩) ?_ ?_
                rotate_left
                · intro w'
                  go_simp
                  with_reducible rfl
                rotate_left
                · simp only [Act.put, List.setIfInBounds_toArray, List.set_cons_zero, List.set_cons_succ, i64_w, i32_w]
                  rfl
                refine pure_ (i := 5) (N := some 22) (v := ?_) (a' := ?_) #[true, true, true, false, true, true, false, false, false, false] rfl rfl (any_of HT_.out (by kernel_rfl)) (fun _ _ _ h => h) (Or.inl ⟨by rfl, ?_⟩) ?_ ?_
                rotate_left
                · intro w'
                  go_simp
                  with_reducible rfl
                rotate_left
                · simp only [Act.put, List.setIfInBounds_toArray, List.set_cons_zero, List.set_cons_succ, i64_w, i32_w]
                  rfl
                refine pure_ (i := 6) (N := some 23) (v := ?_) (a' := ?_) #[true, true, true, false, true, true, true, false, false, false] rfl rfl (any_of HT_.out (by kernel_rfl)) (fun _ _ _ h => h) (Or.inl ⟨by rfl, ?_⟩) ?_ ?_
                rotate_left
                · intro w'
                  go_simp
                  with_reducible rfl
                rotate_left
                · simp only [Act.put, List.setIfInBounds_toArray, List.set_cons_zero, List.set_cons_succ, i64_w, i32_w]
                  rfl
                refine take_ (i := 3) (N := some 20) (v := ?_) (a' := ?_) #[true, true, true, true, true, true, true, false, false, false] rfl rfl (take_ofW HT_.out HW_.out (by kernel_rfl)) (fun _ _ _ h => h) (Or.inl ⟨by rfl, ?_⟩) hHeld ?_ ?_
                rotate_left
                · rintro w' ⟨s0, s1, s2, s3, s4, s5⟩
                  go_simp
                  with_reducible rfl
                rotate_left
                · simp only [Act.put, List.setIfInBounds_toArray, List.set_cons_zero, List.set_cons_succ, i64_w, i32_w]
                  rfl
                refine take_ (i := 7) (N := some 24) (v := ?_) (a' := ?_) #[true, true, true, true, true, true, true, true, false, false] rfl rfl (take_ofW HT_.out HW_.out (by kernel_rfl)) (fun _ _ _ h => h) (Or.inl ⟨by rfl, ?_⟩) hHeld ?_ ?_
                rotate_left
                · rintro w' ⟨s0, s1, s2, s3, s4, s5⟩
                  go_simp
                  with_reducible rfl
                rotate_left
                · simp only [Act.put, List.setIfInBounds_toArray, List.set_cons_zero, List.set_cons_succ, i64_w, i32_w]
                  rfl
                refine one_ (i := 8) (N := some 25) #[true, true, true, true, true, true, true, true, true, false] rfl rfl (one_of HT_.out (by kernel_rfl)) (by decide) (fun K hK => ?_)
                refine goes_ Try.func22 (by kernel_rfl) rfl #[.agg #[.int .i8 ((rd_T26 l0 x5_1).f0), .int .i8 ((rd_T26 l0 x5_1).f1), .int .i8 ((rd_T26 l0 x5_1).f2)], .agg #[.int .i8 ((rd_T26 l1 x5_1).f0), .int .i8 ((rd_T26 l1 x5_1).f1), .int .i8 ((rd_T26 l1 x5_1).f2)]] (by rfl) rfl rfl (by (try simp only [List.map_toArray, List.map_cons, List.map_nil]); first | done | rfl | (simp only [List.length_drop, List.length_take]; rfl)) ?_
                with_reducible refine (laws_eqBox.calls ((rd_T26 l0 x5_1).f0) ((rd_T26 l0 x5_1).f1) ((rd_T26 l0 x5_1).f2) ((rd_T26 l1 x5_1).f0) ((rd_T26 l1 x5_1).f1) ((rd_T26 l1 x5_1).f2) false _ A7.out).mono ?_
                rintro e w12 ⟨rfl, hb⟩
                refine ⟨_, rfl, ?_⟩
                have n0_ := Aside0.mk (below_step (by repeat (first | (with_reducible first | exact HB.out | apply below_alloc | apply pw_below_drewN | apply below_drew1) | exact HB.out)) hb)
                clear HB
                have HB := n0_
                clear n0_
                (try clear hb)
                (try clear hb2)
                (try clear hk)
                (try clear hi)
                refine hK.out _ _ ⟨((HB.out.cell (World.block_lt_of_cell? w _ hw250_0)).trans hw250_0), ((HB.out.cell (World.block_lt_of_cell? w _ hw250_1)).trans hw250_1), ((HB.out.cell (World.block_lt_of_cell? w _ hw250_2)).trans hw250_2), ((HB.out.cell (World.block_lt_of_cell? w _ hw251_0)).trans hw251_0), ((HB.out.cell (World.block_lt_of_cell? w _ hw251_1)).trans hw251_1), ((HB.out.cell (World.block_lt_of_cell? w _ hw251_2)).trans hw251_2)⟩ (fun hHeld => ?_)
                clear hK K
                refine norm_ (a' := ?_) ?_ ?_
                rotate_left
                · show Act.put _ (some 25) _ = _
                  simp only [Act.put, List.setIfInBounds_toArray, List.set_cons_zero, List.set_cons_succ, i64_w, i32_w]
                  rfl
                refine pure_ (i := 9) (N := some 26) (v := ?_) (a' := ?_) #[true, true, true, true, true, true, true, true, true, true] rfl rfl (any_of HT_.out (by kernel_rfl)) (fun _ _ _ h => h) (Or.inl ⟨by rfl, ?_⟩) ?_ ?_
                rotate_left
                · intro w'
                  go_simp
                  with_reducible rfl
                rotate_left
                · simp only [Act.put, List.setIfInBounds_toArray, List.set_cons_zero, List.set_cons_succ, i64_w, i32_w]
                  rfl
                refine done_ (done_of HT_.out (by kernel_rfl)) ?_
                try go_wp2
                go_ret
                exact ⟨by first | rfl | (simp [errW_none, errW_some] <;> rfl) | (simp [*, errW_none, errW_some] <;> rfl), by repeat (first | (with_reducible first | exact HB.out | apply below_alloc | apply pw_below_drewN | apply below_drew1) | exact HB.out)⟩
            · rw [if_neg c6] at H
              exact absurd H (by simp)
          · rw [if_neg c5] at H
            exact absurd H (by simp)
        · rw [if_neg c4] at H
          have c4b0 : decide (x5_1 < (l0.length : Int)) = false := decide_eq_false c4
          clear c4
          obtain rfl := Option.some.inj H
          go_wp2
          go_ret
          exact ⟨by first | rfl | (simp [errW_none, errW_some] <;> rfl) | (simp [*, errW_none, errW_some] <;> rfl), by repeat (first | (with_reducible first | exact HB.out | apply below_alloc | apply pw_below_drewN | apply below_drew1) | exact HB.out)⟩
  · rw [if_neg c3] at H
    have c3b0 : ((l0.length : Int) == (l1.length : Int)) = false := beq_eq_false_iff_ne.mpr c3
    have c3b1 : ((l0.length : Int) != (l1.length : Int)) = true := bne_iff_ne.mpr c3
    have c3b2 : (l0.length == l1.length) = false := by first | simpa using c3 | (simp at c3 ⊢; omega)
    obtain rfl := Option.some.inj H
    go_enter Try.func25, Try.ntmps25
    go_wp2
    go_ret
    exact ⟨by first | rfl | (simp [errW_none, errW_some] <;> rfl) | (simp [*, errW_none, errW_some] <;> rfl), by repeat (first | (with_reducible first | exact HB.out | apply below_alloc | apply pw_below_drewN | apply below_drew1) | exact HB.out)⟩

end Go.Proofs.Ytmbbkaoccmokeaa.P

namespace Go.Proofs.Ytmbbkaoccmokeaa.Pure
open Go.RowKit Go.Proofs.Ytmbbkaoccmokeaa.P Go.Proofs.YtmbbkaoccmokeaaW.PrintWords Go.Proofs.YtmbbkaoccmokeaaW.PrintLast
set_option linter.unusedVariables false
set_option linter.unusedSimpArgs false

theorem eqBF (a b c : Int) : laws_eqBox.f a b c a b c = some true := by
  rw [laws_eqBox.f, if_pos rfl, if_pos rfl, if_pos rfl]
theorem eqB_l0 (l : List S26) (hb : l.length ≤ 17592186044415) : ∀ d i, l.length - i = d → i ≤ l.length → Ev (fun k => laws_eqBoxS.l0 k l l (i : Int)) true := by
  intro d
  induction d with
  | zero =>
    intro i hd hi
    refine Ev.step (f := fun _ => some true) (fun k => ?_) (Ev.now _)
    rw [laws_eqBoxS.l0, if_neg (by omega)]
  | succ d ih =>
    intro i hd hi
    refine Ev.step (fun k => ?_) (ih (i + 1) (by omega) (by omega))
    rw [laws_eqBoxS.l0, if_pos (by omega), if_pos (by omega), if_pos (by omega), eqBF, Option.bind_some, if_pos rfl, wN i (by omega)]
theorem eqB (l : List S26) (hb : l.length ≤ 17592186044415) : Ev (fun k => laws_eqBoxS.f k l l) true := by
  refine Ev.congr (f := fun k => laws_eqBoxS.l0 k l l ((0 : Nat) : Int)) (fun k => ?_) (eqB_l0 l hb _ 0 rfl (Nat.zero_le _))
  rw [laws_eqBoxS.f, if_pos rfl]; rfl
/-- The turns of a valid box. -/
theorem six_ok {a b c : Int} (h : okB a b c = true) {s : S26} (hs : s ∈ six a b c) : (1 ≤ s.f0 ∧ s.f0 ≤ 60) ∧ (1 ≤ s.f1 ∧ s.f1 ≤ 60) ∧ (1 ≤ s.f2 ∧ s.f2 ≤ 60) := by
  obtain ⟨h0, h1, h2⟩ := okB_iff.1 h
  simp only [six, List.mem_cons, List.not_mem_nil, or_false] at hs
  rcases hs with rfl | rfl | rfl | rfl | rfl | rfl <;> simp only <;> omega
theorem getD_memG (l : List S26) (i : Nat) (h : i < l.length) : l.getD i z26 ∈ l := by rw [getD_eqG z26 l i h]; exact List.getElem_mem h

end Go.Proofs.Ytmbbkaoccmokeaa.Pure

namespace Go.Proofs.Ytmbbkaoccmokeaa.Pure
open Go.RowKit Go.Proofs.Ytmbbkaoccmokeaa.P Go.Proofs.YtmbbkaoccmokeaaW.PrintWords Go.Proofs.YtmbbkaoccmokeaaW.PrintLast
set_option linter.unusedVariables false
set_option linter.unusedSimpArgs false

theorem rdT24 (l : List S24) (i : Nat) : rd_T24 l (i : Int) = l.getD i z24 := rfl
theorem list_extT (a b : List S26) (hl : a.length = b.length) (h : ∀ j, j < b.length → a.getD j z26 = b.getD j z26) : a = b := by
  apply List.ext_getElem hl
  intro i h1 h2
  have := h i h2
  rwa [getD_eqG z26 a i h1, getD_eqG z26 b i h2] at this
/-- A box as the program has it. -/
def cvb (x : S24) : S26 := ⟨x.f0, x.f1, x.f2⟩
theorem szB (l : List S24) (a : Int) (h0 : 0 ≤ a) (h1 : a ≤ 1048576) (hl : l.length ≤ 9223372036854775807) : laws_szBoxS.f l a = some (if (l.length : Int) ≤ a then a - l.length else -1) := by
  unfold laws_szBoxS.f
  rw [w64 (by omega) (by omega)]
  split <;> split <;> first | rfl | omega
theorem toBS_l0 (l : List S24) (hb : l.length ≤ 1048576) : ∀ d i (x : List S26), l.length - i = d → i ≤ l.length → x.length = l.length → (∀ j, j < i → x.getD j z26 = cvb (l.getD j z24)) → Ev (fun k => laws_toBoxS.l0 k l x (i : Int)) (l.map cvb) := by
  intro d
  induction d with
  | zero =>
    intro i x hd hi hx hj
    refine Ev.step (f := fun _ => some x) (fun k => ?_) ?_
    · rw [laws_toBoxS.l0, if_neg (by omega)]
    · have : x = l.map cvb := list_extT x _ (by rw [List.length_map, hx]) (fun j h => by
        rw [List.length_map] at h
        rw [hj j (by omega), getD_eqG z26 _ j (by rw [List.length_map]; exact h), List.getElem_map, getD_eqG z24 l j h])
      rw [this]; exact Ev.now _
  | succ d ih =>
    intro i x hd hi hx hj
    refine Ev.step (fun k => ?_) (ih (i + 1) (x.set i (cvb (l.getD i z24))) (by omega) (by omega) (by simpa using hx) ?_)
    · rw [laws_toBoxS.l0, if_pos (by omega), if_pos (by omega), toB, Option.bind_some, if_pos (by omega), wN i (by omega), rdT24, Int.toNat_natCast]
      rfl
    · intro j h
      rw [getD_setG z26 x i j _ (by omega)]
      by_cases e : i = j
      · rw [if_pos e, e]
      · rw [if_neg e]; exact hj j (by omega)
theorem toBS (l : List S24) (hb : l.length ≤ 1048576) : Ev (fun k => laws_toBoxS.f k l) (l.map cvb) := by
  refine Ev.congr (f := fun k => laws_toBoxS.l0 k l (List.replicate l.length z26) ((0 : Nat) : Int)) (fun k => ?_) (toBS_l0 l hb _ 0 _ rfl (Nat.zero_le _) (by simp) (fun j h => absurd h (Nat.not_lt_zero _)))
  simp only [laws_toBoxS.f, Int.toNat_natCast]
  rw [if_pos (by omega), if_pos (by omega)]; rfl
def okS (s : S26) : Bool := okB s.f0 s.f1 s.f2
/-- Boxes are valid, and not too many. -/
def boxesOk (l : List S26) : Bool := decide (l.length ≤ 10) && l.all okS
def wfS (l : List S26) : Prop := ∀ s ∈ l, (Lit.int .i8 s.f0).wf = true ∧ (Lit.int .i8 s.f1).wf = true ∧ (Lit.int .i8 s.f2).wf = true
theorem wf_cvb {l : List S24} (h : ∀ x ∈ l, (Lit.int .i8 x.f0).wf = true ∧ (Lit.int .i8 x.f1).wf = true ∧ (Lit.int .i8 x.f2).wf = true) : wfS (l.map cvb) := by
  intro s hs
  obtain ⟨x, hx, rfl⟩ := List.mem_map.1 hs
  exact h x hx
theorem any_l0 (l : List S26) (hb : l.length ≤ 1048576) (hw : wfS l) : ∀ d i, l.length - i = d → i ≤ l.length → (∀ j, j < i → okS (l.getD j z26) = true) → ∃ r : Int, Ev (fun k => impl_Box_81.l0 k l (l.length : Int) (i : Int)) r ∧ decide (r ≥ 0) = !(l.all okS) := by
  intro d
  induction d with
  | zero =>
    intro i hd hi hj
    refine ⟨-1, Ev.step (f := fun _ => some (-1)) (fun k => by rw [impl_Box_81.l0, if_neg (by omega)]) (Ev.now _), ?_⟩
    have e : l.all okS = true := List.all_eq_true.2 (fun s hs => by
      obtain ⟨j, h1, rfl⟩ := (mem_getDG z26 l s).1 hs
      exact hj j (by omega))
    rw [e]; rfl
  | succ d ih =>
    intro i hd hi hj
    obtain ⟨w0, w1, w2⟩ := hw _ (getD_memG l i (by omega))
    have e : ∀ k, impl_Box_81.l0 (k + 1) l (l.length : Int) (i : Int) = if (!okS (l.getD i z26)) = true then some (i : Int) else impl_Box_81.l0 k l (l.length : Int) ((i + 1 : Nat) : Int) := fun k => by
      rw [impl_Box_81.l0, if_pos (by omega), if_pos (by omega), if_pos (by omega), impl_boxesCode_1.f, rdT, implOk w0 w1 w2, Option.bind_some, Option.bind_some, wN i (by omega)]
      rfl
    by_cases c : okS (l.getD i z26) = true
    · obtain ⟨r, r1, r2⟩ := ih (i + 1) (by omega) (by omega) (fun j h => by
        by_cases e : j = i
        · subst e; exact c
        · exact hj j (by omega))
      exact ⟨r, Ev.step (fun k => by rw [e, c, if_neg (by decide)]) r1, r2⟩
    · have c' : okS (l.getD i z26) = false := by simpa using c
      refine ⟨(i : Int), Ev.step (f := fun _ => some (i : Int)) (fun k => by rw [e, c', if_pos (by decide)]) (Ev.now _), ?_⟩
      have e : l.all okS = false := by
        cases h : l.all okS with
        | false => rfl
        | true => exact absurd (List.all_eq_true.1 h _ (getD_memG l i (by omega))) c
      rw [e]; simp
theorem codeI (l : List S26) (hb : l.length ≤ 1048576) (hw : wfS l) : Ev (fun k => impl_boxesCode.f k l) (if boxesOk l = true then 0 else 1) := by
  obtain ⟨r, r1, r2⟩ := any_l0 l hb hw _ 0 rfl (Nat.zero_le _) (fun j h => absurd h (Nat.not_lt_zero _))
  obtain ⟨K, r1⟩ := EvG r1
  refine EvI K fun k hk => ?_
  have h1 : impl_Box_81.f k l = some r := r1 k hk
  rw [impl_boxesCode.f, boxesOk]
  by_cases c : l.length ≤ 10
  · rw [if_pos (by omega), impl_Box_75.f, h1, Option.bind_some, Option.bind_some, r2, Bool.not_not, impl_unless.f, decide_eq_true c, Bool.true_and]
    cases l.all okS <;> rfl
  · rw [if_neg (by omega), impl_unless.f, decide_eq_false c, Bool.false_and]
    rfl
theorem boxes_l0 (l : List S26) (hb : l.length ≤ 1048576) (hw : wfS l) : ∀ d i, l.length - i = d → i ≤ l.length → (∀ j, j < i → okS (l.getD j z26) = true) → Ev (fun k => spec_l02Boxes.l0 k l (i : Int)) (boxesOk l) := by
  intro d
  induction d with
  | zero =>
    intro i hd hi hj
    have e : l.all okS = true := List.all_eq_true.2 (fun s hs => by
      obtain ⟨j, h1, rfl⟩ := (mem_getDG z26 l s).1 hs
      exact hj j (by omega))
    refine Ev.step (f := fun _ => some (boxesOk l)) (fun k => ?_) (Ev.now _)
    rw [spec_l02Boxes.l0, if_neg (by omega), boxesOk, e, Bool.and_true]
    congr 1
    by_cases c : l.length ≤ 10 <;> simp [c] <;> omega
  | succ d ih =>
    intro i hd hi hj
    obtain ⟨w0, w1, w2⟩ := hw _ (getD_memG l i (by omega))
    have e : ∀ k, spec_l02Boxes.l0 (k + 1) l (i : Int) = if okS (l.getD i z26) = true then spec_l02Boxes.l0 k l ((i + 1 : Nat) : Int) else some false := fun k => by
      rw [spec_l02Boxes.l0, if_pos (by omega), if_pos (by omega), rdT, specOk w0 w1 w2, Option.bind_some, wN i (by omega)]
      rfl
    by_cases c : okS (l.getD i z26) = true
    · exact Ev.step (fun k => by rw [e, if_pos c]) (ih (i + 1) (by omega) (by omega) (fun j h => by
        by_cases e : j = i
        · subst e; exact c
        · exact hj j (by omega)))
    · have e2 : boxesOk l = false := by
        have : l.all okS = false := by
          cases h : l.all okS with
          | false => rfl
          | true => exact absurd (List.all_eq_true.1 h _ (getD_memG l i (by omega))) c
        rw [boxesOk, this, Bool.and_false]
      rw [e2]
      exact Ev.step (f := fun _ => some false) (fun k => by rw [e, if_neg c]) (Ev.now _)
theorem codeS (l : List S26) (hb : l.length ≤ 1048576) (hw : wfS l) : Ev (fun k => spec_l02Boxes.f k l) (boxesOk l) :=
  boxes_l0 l hb hw _ 0 rfl (Nat.zero_le _) (fun j h => absurd h (Nat.not_lt_zero _))

end Go.Proofs.Ytmbbkaoccmokeaa.Pure

namespace Go.Proofs.Ytmbbkaoccmokeaa.Pure
open Go.RowKit Go.Proofs.Ytmbbkaoccmokeaa.P Go.Proofs.YtmbbkaoccmokeaaW.PrintWords Go.Proofs.YtmbbkaoccmokeaaW.PrintLast
set_option linter.unusedVariables false

theorem needsF {a b c : Int} (ha : 1 ≤ a ∧ a ≤ 60) (hb : 1 ≤ b ∧ b ≤ 60) (hc : 1 ≤ c ∧ c ≤ 60) : spec_l02Needs.f a b c = some (2 * (b + c) + 2, a + c) := by
  rw [spec_l02Needs.f, w64 (x := a) (by omega) (by omega), w64 (x := b) (by omega) (by omega), w64 (x := c) (by omega) (by omega), w64 (x := b + c) (by omega) (by omega), w64 (x := 2 * (b + c)) (by omega) (by omega), w64 (x := 2 * (b + c) + 2) (by omega) (by omega), w64 (x := a + c) (by omega) (by omega)]
theorem paperF {a b c : Int} (ha : 1 ≤ a ∧ a ≤ 60) (hb : 1 ≤ b ∧ b ≤ 60) (hc : 1 ≤ c ∧ c ≤ 60) : impl_Box_paper.f a b c = some (2 * (b + c) + 2, a + c) := by
  have e0 : rd [a, b, c] 0 = a := rfl
  have e1 : rd [a, b, c] 1 = b := rfl
  have e2 : rd [a, b, c] 2 = c := rfl
  rw [impl_Box_paper.f, impl_Box_sides.f, w64 (x := a) (by omega) (by omega), w64 (x := b) (by omega) (by omega), w64 (x := c) (by omega) (by omega), Option.bind_some, if_pos (by simp), if_pos (by simp), if_pos (by simp), e0, e1, e2,
    w64 (x := b + c) (by omega) (by omega), w64 (x := 2 * (b + c)) (by omega) (by omega), w64 (x := 2 * (b + c) + 2) (by omega) (by omega), w64 (x := a + c) (by omega) (by omega)]

theorem step_rng {w b p q : Int} (hb : b < 0 ∨ b ≤ 1000) (hq : 0 ≤ q ∧ q ≤ 1000) : impl_Box_cut.step w b p q = b ∨ impl_Box_cut.step w b p q = q := by
  unfold impl_Box_cut.step
  split
  · split
    · exact .inr rfl
    · split
      · exact .inr rfl
      · exact .inl rfl
  · exact .inl rfl
theorem cut_l0 (wide : Int) (l : List S26) (hn : l.length ≤ 900) (hl : ∀ s ∈ l, (1 ≤ s.f0 ∧ s.f0 ≤ 60) ∧ (1 ≤ s.f1 ∧ s.f1 ≤ 60) ∧ (1 ≤ s.f2 ∧ s.f2 ≤ 60)) : ∀ d i (best : Int), l.length - i = d → i ≤ l.length → (-1 ≤ best ∧ best ≤ 1000) →
    ∃ b, impl_Box_cut.over wide (l.drop i) best = some b ∧ Ev (fun k => spec_l02Cut.l0 k wide best l (i : Int)) b ∧ (-1 ≤ b ∧ b ≤ 1000) := by
  intro d
  induction d with
  | zero =>
    intro i best hd hi hb
    refine ⟨best, by rw [List.drop_of_length_le (by omega)]; rfl, Ev.step (f := fun _ => some best) (fun k => ?_) (Ev.now _), hb⟩
    rw [spec_l02Cut.l0, if_neg (by omega)]
  | succ d ih =>
    intro i best hd hi hb
    obtain ⟨b0, b1, b2⟩ := hl _ (getD_memG l i (by omega))
    obtain ⟨s, hs⟩ : ∃ s, s = l.getD i z26 := ⟨_, rfl⟩
    rw [← hs] at b0 b1 b2
    obtain ⟨W, hW⟩ : ∃ W, W = 2 * (s.f1 + s.f2) + 2 := ⟨_, rfl⟩
    obtain ⟨L, hL⟩ : ∃ L, L = s.f0 + s.f2 := ⟨_, rfl⟩
    have hWr : 0 ≤ W ∧ W ≤ 1000 := by omega
    have hLr : 0 ≤ L ∧ L ≤ 1000 := by omega
    have hdr : l.drop i = s :: l.drop (i + 1) := by rw [List.drop_eq_getElem_cons (by omega), hs, getD_eqG z26 l i (by omega)]
    obtain ⟨x, hx⟩ : ∃ x, x = impl_Box_cut.step wide best W L := ⟨_, rfl⟩
    obtain ⟨y, hy⟩ : ∃ y, y = impl_Box_cut.step wide x L W := ⟨_, rfl⟩
    have hxr : -1 ≤ x ∧ x ≤ 1000 := by
      rcases step_rng (w := wide) (b := best) (p := W) (q := L) (by omega) hLr with e | e <;> rw [hx, e] <;> omega
    have hyr : -1 ≤ y ∧ y ≤ 1000 := by
      rcases step_rng (w := wide) (b := x) (p := L) (q := W) (by omega) hWr with e | e <;> rw [hy, e] <;> omega
    obtain ⟨b, h1, h2, h3⟩ := ih (i + 1) y (by omega) (by omega) hyr
    refine ⟨b, ?_, ?_, h3⟩
    · rw [hdr, impl_Box_cut.over, paperF b0 b1 b2, Option.bind_some, ← hW, ← hL, ← hx, ← hy]; exact h1
    · obtain ⟨K, h2⟩ := EvG h2
      refine EvI (K + 2) fun k hk => ?_
      obtain ⟨m, rfl⟩ : ∃ m, k = m + 2 := ⟨k - 2, by omega⟩
      rw [spec_l02Cut.l0, if_pos (by omega), if_pos (by omega), rdT, ← hs, needsF b0 b1 b2, Option.bind_some, ← hW, ← hL, spec_l02Cut.j1, spec_l02Cut.j1, spec_l02Cut.j1, wN i (by omega)]
      have hy2 : y = if L ≤ wide then (if x < 0 then W else if W < x then W else x) else x := hy
      have hx2 : x = if W ≤ wide then (if best < 0 then L else if L < best then L else best) else best := hx
      have h2' := h2 m (by omega)
      rw [hy2] at h2'
      by_cases c1 : W ≤ wide
      · rw [if_pos c1] at hx2 ⊢
        by_cases c2 : best < 0
        · rw [if_pos c2] at hx2 ⊢
          subst hx2
          rw [if_pos rfl]
          by_cases c4 : x ≤ wide
          · rw [if_pos c4] at h2' ⊢
            by_cases c5 : x < 0
            · rw [if_pos c5] at h2' ⊢; exact h2'
            · rw [if_neg c5] at h2' ⊢
              by_cases c6 : W < x
              · rw [if_pos c6] at h2' ⊢; exact h2'
              · rw [if_neg c6] at h2' ⊢; exact h2'
          · rw [if_neg c4] at h2' ⊢; exact h2'
        · rw [if_neg c2] at hx2 ⊢
          by_cases c3 : L < best
          · rw [if_pos c3] at hx2
            subst hx2
            rw [decide_eq_true c3, if_pos rfl]
            by_cases c4 : x ≤ wide
            · rw [if_pos c4] at h2' ⊢
              by_cases c5 : x < 0
              · rw [if_pos c5] at h2' ⊢; exact h2'
              · rw [if_neg c5] at h2' ⊢
                by_cases c6 : W < x
                · rw [if_pos c6] at h2' ⊢; exact h2'
                · rw [if_neg c6] at h2' ⊢; exact h2'
            · rw [if_neg c4] at h2' ⊢; exact h2'
          · rw [if_neg c3] at hx2
            subst hx2
            rw [decide_eq_false c3, if_neg (by decide)]
            by_cases c4 : L ≤ wide
            · rw [if_pos c4] at h2' ⊢
              rw [if_neg c2] at h2' ⊢
              by_cases c6 : W < x
              · rw [if_pos c6] at h2' ⊢; exact h2'
              · rw [if_neg c6] at h2' ⊢; exact h2'
            · rw [if_neg c4] at h2' ⊢; exact h2'
      · rw [if_neg c1] at hx2 ⊢
        subst hx2
        rw [if_neg (by decide)]
        by_cases c4 : L ≤ wide
        · rw [if_pos c4] at h2' ⊢
          by_cases c5 : x < 0
          · rw [if_pos c5] at h2' ⊢; exact h2'
          · rw [if_neg c5] at h2' ⊢
            by_cases c6 : W < x
            · rw [if_pos c6] at h2' ⊢; exact h2'
            · rw [if_neg c6] at h2' ⊢; exact h2'
        · rw [if_neg c4] at h2' ⊢; exact h2'
theorem cutB {a b c : Int} (h : okB a b c = true) (wide : Int) : ∃ n : Int, Ev (fun k => impl_Box_cut.f k a b c wide) (n, decide (n ≥ 0)) ∧ Ev (fun k => spec_l02Cut.f k a b c wide) n ∧ (-1 ≤ n ∧ n ≤ 1000) := by
  obtain ⟨l, p, q, r, _, hm, hI, hS, _, h1, h9, _⟩ := turnsB a b c
  obtain ⟨n, c1, c2, c3⟩ := cut_l0 wide l h9 (fun s hs => six_ok h ((hm s).1 hs)) _ 0 (-1) rfl (Nat.zero_le _) (by omega)
  obtain ⟨K1, hI⟩ := EvG hI
  obtain ⟨K2, hS⟩ := EvG hS
  obtain ⟨K3, c2⟩ := EvG c2
  refine ⟨n, EvI K1 fun k hk => ?_, EvI (K2 + K3) fun k hk => ?_, c3⟩
  · rw [List.drop_zero] at c1
    rw [impl_Box_cut.f, hI k hk, Option.bind_some, if_pos (by omega), c1, Option.bind_some]
  · rw [spec_l02Cut.f, hS k (by omega), Option.bind_some]
    exact c2 k (by omega)

end Go.Proofs.Ytmbbkaoccmokeaa.Pure

namespace Go.Proofs.Ytmbbkaoccmokeaa.Pure
open Go.RowKit Go.Proofs.Ytmbbkaoccmokeaa.P Go.Proofs.YtmbbkaoccmokeaaW.PrintWords Go.Proofs.YtmbbkaoccmokeaaW.PrintLast
set_option linter.unusedVariables false

theorem leastBoth {a b c : Int} (u : Int) (wa : (Lit.int .i8 a).wf = true) (wb : (Lit.int .i8 b).wf = true) (wc : (Lit.int .i8 c).wf = true) : ∃ r, Ev (fun k => impl_LeastCut.f k a b c u) r ∧ Ev (fun k => spec_LeastCut.f k a b c u) r := by
  obtain ⟨K0, cI⟩ := EvG (codeI [⟨a, b, c⟩] (by simp) (fun s hs => by rw [List.mem_singleton.1 hs]; exact ⟨wa, wb, wc⟩))
  have e : boxesOk [⟨a, b, c⟩] = okB a b c := by simp [boxesOk, okS]
  rw [e] at cI
  by_cases h : okB a b c = true
  · by_cases hu : (decide (1 ≤ u) && decide (u ≤ 400)) = true
    · obtain ⟨n, c1, c2, _⟩ := cutB h u
      obtain ⟨K1, c1⟩ := EvG c1
      obtain ⟨K2, c2⟩ := EvG c2
      have r0 : rd_T26 [⟨a, b, c⟩] 0 = (⟨a, b, c⟩ : S26) := rfl
      have w1 : wrap64 (0 + 1) = 1 := by decide +kernel
      have eI : ∀ k, K0 + K1 + 2 ≤ k → impl_CutsFor.f k [⟨a, b, c⟩] u = if n ≥ 0 then some ([n], 0) else some ([], 6) := fun k hk => by
        obtain ⟨m, rfl⟩ : ∃ m, k = m + 2 := ⟨k - 2, by omega⟩
        rw [impl_CutsFor.f, cI _ (by omega), if_pos h, Option.bind_some, if_pos rfl, withinF, Option.bind_some, if_pos hu, impl_CutsFor.l0, if_pos (by simp), if_pos (by simp), if_pos (by simp), r0, c1 _ (by omega), Option.bind_some, w1]
        by_cases hn : n ≥ 0
        · rw [if_pos (decide_eq_true hn), if_pos (by simp), if_pos hn, impl_CutsFor.l0, if_neg (by simp)]
          rfl
        · rw [if_neg (by simpa using hn), if_neg hn]
      by_cases hn : n ≥ 0
      · refine ⟨(n, 0), EvI (K0 + K1 + 2) fun k hk => ?_, EvI K2 fun k hk => ?_⟩
        · rw [impl_LeastCut.f, eI k hk, if_pos hn, Option.bind_some, if_pos rfl, if_pos (by simp)]
          rfl
        · rw [spec_LeastCut.f, specOk wa wb wc, Option.bind_some, if_pos h, inF, Option.bind_some, if_pos hu, c2 k hk, Option.bind_some, if_neg (by omega)]
      · refine ⟨(0, 6), EvI (K0 + K1 + 2) fun k hk => ?_, EvI K2 fun k hk => ?_⟩
        · rw [impl_LeastCut.f, eI k hk, if_neg hn, Option.bind_some, if_neg (by simp)]
        · rw [spec_LeastCut.f, specOk wa wb wc, Option.bind_some, if_pos h, inF, Option.bind_some, if_pos hu, c2 k hk, Option.bind_some, if_pos (by omega)]
    · refine ⟨(0, 2), EvI K0 fun k hk => ?_, EvI 0 fun k hk => ?_⟩
      · rw [impl_LeastCut.f, impl_CutsFor.f, cI k hk, if_pos h, Option.bind_some, if_pos rfl, withinF, Option.bind_some, if_neg hu, Option.bind_some, if_neg (by simp)]
      · rw [spec_LeastCut.f, specOk wa wb wc, Option.bind_some, if_pos h, inF, Option.bind_some, if_neg hu]
  · refine ⟨(0, 1), EvI K0 fun k hk => ?_, EvI 0 fun k hk => ?_⟩
    · rw [impl_LeastCut.f, impl_CutsFor.f, cI k hk, if_neg h, Option.bind_some, if_neg (by omega), Option.bind_some, if_neg (by simp)]
    · rw [spec_LeastCut.f, specOk wa wb wc, Option.bind_some, if_neg h]
theorem FnExactLeastCut : laws_FnExactLeastCut.Pure := by
  rintro x u ⟨w0, w1, w2⟩ _
  obtain ⟨r, r1, r2⟩ := leastBoth u w0 w1 w2
  obtain ⟨K1, r1⟩ := EvG r1
  obtain ⟨K2, r2⟩ := EvG r2
  refine ⟨K1 + K2, ?_⟩
  rw [laws_FnExactLeastCut.f, toB, Option.bind_some, r2 _ (by omega), Option.bind_some, Option.bind_some, r1 _ (by omega), Option.bind_some, if_pos rfl, if_pos rfl]

end Go.Proofs.Ytmbbkaoccmokeaa.Pure

namespace Go.Proofs.Ytmbbkaoccmokeaa.X
open Go.ChangeShapes Go.WideShapes Go.ChangeAt Go.RowKit Go.Proofs.YtmbbkaoccmokeaaW.PrintWords Go.Deep
set_option linter.unusedVariables false

/-- What reads as data of type t is a value of kind d, and meets wf. -/
def Opens {α : Type} (P : Program) (t : TypeId) (d : Kd α) (wf : α → Prop) : Prop :=
  ∀ (H : Type) (enc : TypeId × Value → H) (W : World) (held : Bool) (fuel : Nat) (cs : List Value) (x : DataW H × List MemPlace), DataW.trod enc P W 0 (fun _ => true) held fuel t cs = some x → ∃ a, d.K W a cs ∧ wf a

theorem Opens.int {P : Program} {t : TypeId} {k : IntKind} (ht : P.underlying t = some (.int k)) : Opens P t (Kd.int k) (fun n => (Lit.int k n).wf = true) := by
  intro H enc W held fuel cs x h
  obtain ⟨n, rfl, _, hw⟩ := DataW.trod_int ht h
  exact ⟨n, rfl, hw⟩

theorem Opens.slice {α : Type} [Inhabited α] {P : Program} {t e : TypeId} {d : Kd α} {wf : α → Prop} (ht : P.underlying t = some (.slice e)) (hc : P.cellsOf e = d.sz) (h : Opens P e d wf) :
    Opens P t (Kd.slice e d) (fun l => l.length ≤ 9223372036854775807 ∧ ∀ a ∈ l, wf a) := by
  intro H enc W held fuel cs x hx
  rcases open_slice ht hx with ⟨rfl, _⟩ | ⟨ad, len, cap, m, n, D, Pl, rfl, _, hl, hm, hmm, _, hel⟩
  · exact ⟨[], ⟨none, 0, rfl, Nat.le_refl _, ⟨rfl, by simp, fun h => absurd h (Nat.lt_irrefl 0)⟩⟩, by simp, fun a ha => by cases ha⟩
  · have hmc : m = cap := by simpa using hmm
    have each : ∀ i, i < len → ∃ a : α, wf a ∧ ∃ c, c.length = d.sz ∧ d.K W a c ∧ ∀ j u, c[j]? = some u → W.cell? (ad.add (i * d.sz + j)) = some u := by
      intro i hi
      obtain ⟨cs', h1, h2⟩ := hel i (by omega)
      obtain ⟨_, hlen, hcell⟩ := World.cells?_some h1
      obtain ⟨a, hK, hw⟩ := h H enc W held n cs' _ h2
      refine ⟨a, hw, cs', by rw [hlen, hc], hK, fun j u hu => ?_⟩
      have hj : j < P.cellsOf e := by have := (List.getElem?_eq_some_iff.1 hu).1; omega
      have h3 := hcell j hj
      rw [hu, hc] at h3
      rw [← h3]
      congr 1
      unfold Addr.add
      by_cases h4 : i * d.sz = 0 <;> by_cases h5 : j = 0 <;> simp [h4, h5, Nat.add_assoc]
    obtain ⟨f, hf⟩ := choose_lt each
    have hlen : ((List.range len).map f).length = len := by simp
    refine ⟨(List.range len).map f, ⟨some ad, cap, by rw [hlen], by rw [hlen]; exact hl, ⟨rfl, by rw [hlen]; unfold maxLen at hm; omega, fun _ => ⟨ad, rfl, fun j p hp => ?_⟩⟩⟩, by rw [hlen]; unfold maxLen at hm; omega, fun a ha => ?_⟩
    · have hj : j < len := by have := (List.getElem?_eq_some_iff.1 hp).1; omega
      have hp2 : f j = p := by simpa [hj] using hp
      rw [← hp2]
      exact (hf j hj).2
    · obtain ⟨i, hi, rfl⟩ := List.mem_map.1 ha
      exact (hf i (List.mem_range.1 hi)).1

theorem Opens.pair {α β : Type} {P : Program} {t : TypeId} {a : Kd α} {b : Kd β} {wa : α → Prop} {wb : β → Prop} {f0 f1 : Field} (hs : P.underlying t = some (.struct #[f0, f1])) (o0 : f0.offset = 0) (c0 : P.cellsOf f0.type = a.sz) (o1 : f1.offset = a.sz) (c1 : P.cellsOf f1.type = b.sz) (hc : P.cellsOf t = a.sz + b.sz)
    (ha : Opens P f0.type a wa) (hb : Opens P f1.type b wb) : Opens P t (Kd.pair a b) (fun x => wa x.1 ∧ wb x.2) := by
  intro H enc W held fuel cs x hx
  obtain ⟨xs, n, _, _, hl, hxl, hf⟩ := DataW.trod_struct hs hx
  have hxl : xs.length = 2 := hxl
  have g0 := hf 0 f0 rfl
  have g1 := hf 1 f1 rfl
  rw [List.getElem?_eq_getElem (by omega)] at g0 g1
  obtain ⟨x0, k0, w0⟩ := ha H enc W held n _ _ g0
  obtain ⟨x1, k1, w1⟩ := hb H enc W held n _ _ g1
  refine ⟨(x0, x1), ⟨_, _, ?_, k0, k1⟩, w0, w1⟩
  rw [o0, o1, c0, c1, List.drop_zero]
  rw [List.take_of_length_le (l := cs.drop a.sz) (by rw [List.length_drop]; omega), List.take_append_drop]

theorem Opens.triple {α β γ : Type} {P : Program} {t : TypeId} {a : Kd α} {b : Kd β} {c : Kd γ} {wa : α → Prop} {wb : β → Prop} {wc : γ → Prop} {f0 f1 f2 : Field} (hs : P.underlying t = some (.struct #[f0, f1, f2])) (o0 : f0.offset = 0) (c0 : P.cellsOf f0.type = a.sz) (o1 : f1.offset = a.sz) (c1 : P.cellsOf f1.type = b.sz) (o2 : f2.offset = a.sz + b.sz) (c2 : P.cellsOf f2.type = c.sz) (hc : P.cellsOf t = a.sz + b.sz + c.sz)
    (ha : Opens P f0.type a wa) (hb : Opens P f1.type b wb) (hcc : Opens P f2.type c wc) : Opens P t (Kd.pair a (Kd.pair b c)) (fun x => wa x.1 ∧ wb x.2.1 ∧ wc x.2.2) := by
  intro H enc W held fuel cs x hx
  obtain ⟨xs, n, _, _, hl, hxl, hf⟩ := DataW.trod_struct hs hx
  have hxl : xs.length = 3 := hxl
  have g0 := hf 0 f0 rfl
  have g1 := hf 1 f1 rfl
  have g2 := hf 2 f2 rfl
  rw [List.getElem?_eq_getElem (by omega)] at g0 g1 g2
  obtain ⟨x0, k0, w0⟩ := ha H enc W held n _ _ g0
  obtain ⟨x1, k1, w1⟩ := hb H enc W held n _ _ g1
  obtain ⟨x2, k2, w2⟩ := hcc H enc W held n _ _ g2
  refine ⟨(x0, x1, x2), ⟨_, _, ?_, k0, ⟨_, _, rfl, k1, k2⟩⟩, w0, w1, w2⟩
  rw [o0, o1, o2, c0, c1, c2, List.drop_zero]
  rw [List.take_of_length_le (l := cs.drop (a.sz + b.sz)) (by rw [List.length_drop]; omega), ← List.drop_drop, List.take_append_drop, List.take_append_drop]

theorem Opens.iso {α β : Type} {P : Program} {t : TypeId} {d : Kd α} {wf : α → Prop} (f : β → α) (g : α → β) (hg : ∀ a, f (g a) = a) (h : Opens P t d wf) : Opens P t (Kd.iso d f) (fun b => wf (f b)) := by
  intro H enc W held fuel cs x hx
  obtain ⟨a, hK, hw⟩ := h H enc W held fuel cs x hx
  refine ⟨g a, ?_, by show wf (f (g a)); rw [hg]; exact hw⟩
  show d.K W (f (g a)) cs
  rw [hg]; exact hK

/-- An argument that is a struct. -/
theorem Opens.agg {α : Type} {P : Program} {t : TypeId} {d : Kd α} {wf : α → Prop} {fs : Array Field} (h : Opens P t d wf) (hs : P.underlying t = some (.struct fs)) {H : Type} {enc : TypeId × Value → H} {W : World} {r : Reach} {b0 : Nat} {v : Value} {dd : DataW H} {ps : List MemPlace}
    (hv : Value.okWide P W r b0 t v) (ht : DataW.Trod enc P W 0 (fun _ => true) true t v dd ps) : ∃ (a : α) (cs : List Value), v = .agg cs.toArray ∧ d.K W a cs ∧ wf a := by
  obtain ⟨cs, rfl, _⟩ := okWide_struct hs hv
  obtain ⟨fuel, hf⟩ := ht
  obtain ⟨a, hK, hw⟩ := h H enc W true fuel _ _ hf
  exact ⟨a, _, by simp [Value.cells], hK, hw⟩
/-- An argument that is a slice. -/
theorem Opens.arg {α : Type} {P : Program} {t e : TypeId} {d : Kd α} {wf : List α → Prop} (h : Opens P t (Kd.slice e d) wf) (ht : P.underlying t = some (.slice e)) {H : Type} {enc : TypeId × Value → H} {W : World} {r : Reach} {b0 : Nat} {v : Value} {dd : DataW H} {ps : List MemPlace}
    (hv : Value.okWide P W r b0 t v) (hT : DataW.Trod enc P W 0 (fun _ => true) true t v dd ps) : ∃ (l : List α) (A : Option Addr) (c : Nat), v = .slice A l.length c ∧ l.length ≤ c ∧ d.C W A l.length l ∧ wf l := by
  obtain ⟨a, len, cap, rfl⟩ := okWide_slice ht hv
  obtain ⟨fuel, hf⟩ := hT
  obtain ⟨l, ⟨A, c, he, hl, hC⟩, hw⟩ := h H enc W true fuel _ _ hf
  have he2 : [Value.slice a len cap] = [Value.slice A l.length c] := by simpa [Value.cells] using he
  injection he2 with he2 _
  exact ⟨l, A, c, he2, hl, hC, hw⟩

end Go.Proofs.Ytmbbkaoccmokeaa.X
