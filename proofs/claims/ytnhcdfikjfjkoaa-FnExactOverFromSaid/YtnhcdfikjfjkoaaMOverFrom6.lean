/- The Go functions that the law FnExactOverFrom comes to, as plain Lean functions, the proofs that calls of them return what those tell, and the plain lemmas on them; no condition but those that each theorem states. -/
import Derived.Test.YtnhcdfikjfjkoaaMOverFrom2
import Derived.Test.YtnhcdfikjfjkoaaMOverFrom4
import Derived.Test.YtnhcdfikjfjkoaaMOverFrom5
import Derived.Test.YtnhcdfikjfjkoaaMOverFrom3
import Derived.OpenShut
namespace Go.Proofs.Ytnhcdfikjfjkoaa.P
open Go.RowKit Go.Proofs.YtnhcdfikjfjkoaaW.PrintWords Go.Proofs.YtnhcdfikjfjkoaaW.PrintLast Go.Proofs.YtnhcdfikjfjkoaaW.PrintMore
attribute [local go_sem] max2_int min2_int max_two min_two max_three min_three max_four min_four   -- for this text's walks alone
set_option linter.unusedVariables false
set_option linter.unusedSimpArgs false

/-! ### impl_purse_counts: function 61 -/
mutual
def impl_purse_counts.l0 : Nat → List (List (S77)) → Int → List Int → Int → List Int → Int → Int → Option (List Int)
  | 0, _, _, _, _, _, _, _ => none
  | k + 1, x1, x2, x7, x8, x22, x23, x24 => if x24 < x23 then (if 0 ≤ x24 then (if x24 < (x22.length : Int) then (impl_purse_counts.l1 k x1 x2 x7 x8 x24 (rd x22 x24) 0 x22 x23 x24) else (none)) else (none)) else (some x7)
def impl_purse_counts.l1 : Nat → List (List (S77)) → Int → List Int → Int → Int → Int → Int → List Int → Int → Int → Option (List Int)
  | 0, _, _, _, _, _, _, _, _, _, _ => none
  | k + 1, x1, x2, x7, x8, x9, x10, x11, x22, x23, x24 => if 0 ≤ (wrap64 (x9 + 1)) then (if (wrap64 (x9 + 1)) < (x1.length : Int) then (if 0 ≤ (wrap64 (x2 - (wrap64 (x11 * x10)))) then (if (wrap64 (x2 - (wrap64 (x11 * x10)))) < ((rd_L7 x1 (wrap64 (x9 + 1))).length : Int) then (if ((rd_T77 (rd_L7 x1 (wrap64 (x9 + 1))) (wrap64 (x2 - (wrap64 (x11 * x10))))).f0) > 0 then (if (wrap64 (((rd_T77 (rd_L7 x1 (wrap64 (x9 + 1))) (wrap64 (x2 - (wrap64 (x11 * x10))))).f1) + x11)) = x8 then (if x7.length < 17592186044416 then (impl_purse_counts.l0 k x1 (wrap64 (x2 - (wrap64 (x11 * x10)))) (x7 ++ [x11]) (wrap64 (x8 - x11)) x22 x23 (wrap64 (x24 + 1))) else (none)) else (impl_purse_counts.l1 k x1 x2 x7 x8 x9 x10 (wrap64 (x11 + 1)) x22 x23 x24)) else (impl_purse_counts.l1 k x1 x2 x7 x8 x9 x10 (wrap64 (x11 + 1)) x22 x23 x24)) else (none)) else (none)) else (none)) else (none)
end
def impl_purse_counts.f (k : Nat) (l0_0 : List Int) (l0_1 : List Int) (l1 : List (List (S77))) (a2 : Int) : Option (List Int) := if 0 < (l1.length : Int) then (if 0 ≤ a2 then (if a2 < ((rd_L7 l1 0).length : Int) then (impl_purse_counts.l0 k l1 a2 (([] : List Int)) ((rd_T77 (rd_L7 l1 0) a2).f1) l0_0 (l0_0.length : Int) 0) else (none)) else (none)) else (none)
theorem impl_purse_counts.mono_l : ∀ k, (∀ y0 y1 y2 y3 y4 y5 y6, LeO (impl_purse_counts.l0 k y0 y1 y2 y3 y4 y5 y6) (impl_purse_counts.l0 (k + 1) y0 y1 y2 y3 y4 y5 y6)) ∧ (∀ y0 y1 y2 y3 y4 y5 y6 y7 y8 y9, LeO (impl_purse_counts.l1 k y0 y1 y2 y3 y4 y5 y6 y7 y8 y9) (impl_purse_counts.l1 (k + 1) y0 y1 y2 y3 y4 y5 y6 y7 y8 y9))
  | 0 => ⟨fun _ _ _ _ _ _ _ r h => by simp [impl_purse_counts.l0] at h, fun _ _ _ _ _ _ _ _ _ _ r h => by simp [impl_purse_counts.l1] at h⟩
  | k + 1 => by
    obtain ⟨ih0, ih1⟩ := impl_purse_counts.mono_l k
    refine ⟨?_, ?_⟩
    · intro y0 y1 y2 y3 y4 y5 y6
      unfold impl_purse_counts.l0
      repeat' first
      | (with_reducible exact ih0 _ _ _ _ _ _ _)
      | (with_reducible exact ih1 _ _ _ _ _ _ _ _ _ _)
      | (with_reducible exact LeO.refl _)
      | (with_reducible exact LeO.none _)
      | (with_reducible refine LeO.ite ?_ ?_)
      | (with_reducible refine LeO.bind ?_ (fun _ => ?_))
      | exact ih0 _ _ _ _ _ _ _
      | exact ih1 _ _ _ _ _ _ _ _ _ _
      | exact LeO.none _
      | refine LeO.ite ?_ ?_
      | refine LeO.bind ?_ (fun _ => ?_)
    · intro y0 y1 y2 y3 y4 y5 y6 y7 y8 y9
      unfold impl_purse_counts.l1
      repeat' first
      | (with_reducible exact ih0 _ _ _ _ _ _ _)
      | (with_reducible exact ih1 _ _ _ _ _ _ _ _ _ _)
      | (with_reducible exact LeO.refl _)
      | (with_reducible exact LeO.none _)
      | (with_reducible refine LeO.ite ?_ ?_)
      | (with_reducible refine LeO.bind ?_ (fun _ => ?_))
      | exact ih0 _ _ _ _ _ _ _
      | exact ih1 _ _ _ _ _ _ _ _ _ _
      | exact LeO.none _
      | refine LeO.ite ?_ ?_
      | refine LeO.bind ?_ (fun _ => ?_)
theorem impl_purse_counts.mono : ∀ a0 a1 a2 a3 k, LeO (impl_purse_counts.f k a0 a1 a2 a3) (impl_purse_counts.f (k + 1) a0 a1 a2 a3) := by
  intro a0 a1 a2 a3 k
  obtain ⟨ih0, ih1⟩ := impl_purse_counts.mono_l k
  unfold impl_purse_counts.f
  repeat' first
      | (with_reducible exact ih0 _ _ _ _ _ _ _)
      | (with_reducible exact ih1 _ _ _ _ _ _ _ _ _ _)
      | (with_reducible exact LeO.refl _)
      | (with_reducible exact LeO.none _)
      | (with_reducible refine LeO.ite ?_ ?_)
      | (with_reducible refine LeO.bind ?_ (fun _ => ?_))
      | exact ih0 _ _ _ _ _ _ _
      | exact ih1 _ _ _ _ _ _ _ _ _ _
      | exact LeO.none _
      | refine LeO.ite ?_ ?_
      | refine LeO.bind ?_ (fun _ => ?_)
def impl_purse_counts.T1 : Bool × List (List Nat × List Nat) := (true, [([], []), ([], []), ([1], [1]), ([2], [2]), ([], []), ([3, 4], [3, 4]), ([5], [5]), ([6], [6]), ([0, 0], [0]), ([7, 8, 0, 1, 2, 3, 4, 5, 6, 7, 8], [7])])
def impl_purse_counts.B1 : List Nat := [0, 0, 2, 6, 0, 30, 62, 126, 1, 511]
theorem impl_purse_counts.tab1 : rtab .any (opsOf Try.f61 1) = impl_purse_counts.T1 := by kernel_rfl
theorem impl_purse_counts.bits1 : waitsOk impl_purse_counts.T1.2 impl_purse_counts.B1 = true := by kernel_rfl
set_option maxHeartbeats 8000000 in
set_option maxRecDepth 100000 in
theorem impl_purse_counts.calls (k : Nat) (A0_0 : Option Addr) (c0_0 : Nat) (l0_0 : List Int) (A0_1 : Option Addr) (c0_1 : Nat) (l0_1 : List Int) (A1 : Option Addr) (c1 : Nat) (l1 : List (List (S77))) (a2 : Int) (r : List Int) (w : World) (hr0_0 : Kd.C (Kd.int .i64) w A0_0 l0_0.length l0_0) (hc0_0 : l0_0.length ≤ c0_0) (hr0_1 : Kd.C (Kd.int .i64) w A0_1 l0_1.length l0_1) (hc0_1 : l0_1.length ≤ c0_1) (hr1 : Kd.C (Kd.slice 77 k77) w A1 l1.length l1) (hc1 : l1.length ≤ c1) (h : impl_purse_counts.f k l0_0 l0_1 l1 a2 = some r) :
    Calls Try.prog 61 #[.agg #[.slice A0_0 l0_0.length c0_0, .slice A0_1 l0_1.length c0_1], .slice A1 l1.length c1, .int .i64 a2] w fun e w' => ∃ v0_ : Value, e = .returned (v0_) ∧ Kd.R (Kd.int .i64) 2 w' w.heap.size (fun _ => True) v0_ r ∧ Below w.heap.size w w' := by
  have hu60 := Try.underlying60
  have hu77 := Try.underlying77
  have HR0_0 := Aside0.mk hr0_0
  have HC0_0 := Aside0.mk hc0_0
  clear hr0_0 hc0_0
  have HR0_1 := Aside0.mk hr0_1
  have HC0_1 := Aside0.mk hc0_1
  clear hr0_1 hc0_1
  have HR1 := Aside0.mk hr1
  have HC1 := Aside0.mk hc1
  clear hr1 hc1
  have HB := Aside0.mk (Below.refl w.heap.size w)
  have H : (if 0 < (l1.length : Int) then (if 0 ≤ a2 then (if a2 < ((rd_L7 l1 0).length : Int) then (impl_purse_counts.l0 k l1 a2 (([] : List Int)) ((rd_T77 (rd_L7 l1 0) a2).f1) l0_0 (l0_0.length : Int) 0) else (none)) else (none)) else (none)) = some r := h
  clear h
  obtain ⟨y431, hy431⟩ : ∃ y_ : List Int, y_ = (([] : List Int)) := ⟨_, rfl⟩
  replace H : (if 0 < (l1.length : Int) then (if 0 ≤ a2 then (if a2 < ((rd_L7 l1 0).length : Int) then (impl_purse_counts.l0 k l1 a2 y431 ((rd_T77 (rd_L7 l1 0) a2).f1) l0_0 (l0_0.length : Int) 0) else (none)) else (none)) else (none)) = some r := by first | (rw [hy431]; with_reducible exact H) | (have H2_ := (Option.bind_some _ _).symm.trans H; rw [hy431]; with_reducible exact H2_) | (have H2_ := (Option.bind_some _ _).symm.trans H; with_reducible exact H2_) | with_reducible exact H | (rw [hy431]; exact H) | exact H
  have Ny431 := Aside0.mk hy431
  clear hy431
  by_cases c4 : 0 < (l1.length : Int)
  rotate_left
  · rw [if_neg c4] at H
    exact absurd H (by simp)

  rw [if_pos c4] at H
  have c4b0 : decide (0 < (l1.length : Int)) = true := decide_eq_true c4
  have c4b1 : decide (0 < l1.length) = true := decide_eq_true (by omega)
  clear c4
  by_cases c5 : 0 ≤ a2
  rotate_left
  · rw [if_neg c5] at H
    exact absurd H (by simp)
  rw [if_pos c5] at H
  have c5b0 : decide (0 ≤ a2) = true := decide_eq_true c5
  clear c5
  by_cases c6 : a2 < ((rd_L7 l1 0).length : Int)
  rotate_left
  · rw [if_neg c6] at H
    exact absurd H (by simp)
  rw [if_pos c6] at H
  have c6b0 : decide (a2 < ((rd_L7 l1 0).length : Int)) = true := decide_eq_true c6
  clear c6
  have H' := Aside0.mk H
  clear H
  go_enter Try.func61, Try.ntmps61
  try go_wp2_with (first | ((with_reducible refine gate_dst (N := 3) rfl ?_); refine box_event ?hg (N := 3) ?hd (cs := #[.slice A0_0 l0_0.length c0_0, .slice A0_1 l0_1.length c0_1]) (t := 60) ?hr ?_; (case hd => rfl); (case hg => rfl); (case hr => first | (go_simp; done) | (go_simp; rfl)); intro gb430 hg w7 hbox hb; have n0_ := Aside0.mk (below_step (by repeat (first | (with_reducible first | exact HB.out | apply below_alloc | apply pw_below_drewN | apply below_drew1) | exact HB.out)) hb); have n1_ := Aside0.mk (hbox); have n2_ := Aside0.mk ((by rw [hg]; exact (below_size (by repeat (first | (with_reducible first | exact HB.out | apply below_alloc | apply pw_below_drewN | apply below_drew1) | exact HB.out))) : w.heap.size ≤ gb430)); have n3_ := Aside0.mk ((by rw [hg]; exact (below_size (by repeat (first | (with_reducible first | exact HB.out | apply below_alloc | apply pw_below_drewN | apply below_drew1) | exact HB.out))) : w.heap.size ≤ gb430)); clear HB; have HB := n0_; have BK430 := n1_; have GW430 := n2_; have GE430 := n3_; clear n0_ n1_ n2_ n3_; clear hb hbox hg))
  have n0_ := Aside0.mk (blk_drew BK430.out)
  have n1_ := Aside0.mk (below_drew1 HB.out)
  clear BK430
  clear HB
  have BK430 := n0_
  have HB := n1_
  clear n0_ n1_
  have p434 : 0 ≤ (0 : Int) := (by omega)
  have q434 : 0 < (l1.length : Int) := of_decide_eq_true (by first | (with_reducible assumption) | assumption)
  obtain ⟨ad434, A434_0, c434_0, e434, hx434_0, hl434_0, hi434_0⟩ := at_L7 HR1.out 0 p434 q434
  have hw434_0 := hx434_0
  (try rw [show ((0 : Int)).toNat = 0 from rfl] at hw434_0)
  (try rw [show 0 * 1 = 0 from rfl] at hw434_0)
  (try rw [Addr.add_zero'] at hw434_0)
  cases e434
  have qi434 : (0 < l1.length) = True := eq_true (by omega)
  (try rw [show ((0 : Int)).toNat = 0 from rfl] at hx434_0)
  (try rw [Addr.add_zero'] at hx434_0)
  replace hx434_0 := (HB.out.cell (World.block_lt_of_cell? w _ hx434_0)).trans hx434_0
  have HR434_0 := Aside0.mk hi434_0
  have HC434_0 := Aside0.mk hl434_0
  clear hi434_0 hl434_0
  replace p434 := eq_true p434
  replace q434 := eq_true q434
  have p435 : 0 ≤ (a2 : Int) := of_decide_eq_true (by first | (with_reducible assumption) | assumption)
  have q435 : a2 < ((rd_L7 l1 0).length : Int) := of_decide_eq_true (by first | (with_reducible assumption) | assumption)
  obtain ⟨ad435, e435, hx435_0, hx435_1⟩ := at_T77 HR434_0.out a2 p435 q435
  have hw435_1 := hx435_1
  have hw435_0 := hx435_0
  cases e435
  replace hx435_0 := (HB.out.cell (World.block_lt_of_cell? w _ hx435_0)).trans hx435_0
  replace hx435_1 := (HB.out.cell (World.block_lt_of_cell? w _ hx435_1)).trans hx435_1
  replace p435 := eq_true p435
  replace q435 := eq_true q435
  refine start_ (n := 10) (S := fun w' => w'.cell? ad434 = some (.slice (some ad435) (rd_L7 l1 0).length c434_0) ∧ w'.cell? (ad435.add ((a2).toNat * 2)) = some (.int .i64 ((rd_T77 (rd_L7 l1 0) a2).f0)) ∧ w'.cell? ⟨(ad435.add ((a2).toNat * 2)).block, (ad435.add ((a2).toNat * 2)).off + 1, none⟩ = some (.int .i64 ((rd_T77 (rd_L7 l1 0) a2).f1))) (ds := []) #[false, false, false, false, false, false, false, false, false, false] (by kernel_rfl) rfl rfl ⟨((HB.out.cell (World.block_lt_of_cell? w _ hw434_0)).trans hw434_0), ((HB.out.cell (World.block_lt_of_cell? w _ hw435_0)).trans hw435_0), ((HB.out.cell (World.block_lt_of_cell? w _ hw435_1)).trans hw435_1)⟩ (fun hHeld => ?_); refine with_tabW impl_purse_counts.tab1 impl_purse_counts.bits1 (fun HT_ HW_ => ?_)
  generalize w7.drew = w8 at BK430 HB HR434_0 hx434_0 hx435_0 hx435_1 hHeld ⊢
  refine pure_ (i := 1) (N := some 14) (v := ?_) (a' := ?_) #[false, true, false, false, false, false, false, false, false, false] rfl rfl (any_of HT_.out (by kernel_rfl)) (fun _ _ _ h => h) (Or.inl ⟨by rfl, ?_⟩) ?_ ?_
  rotate_left
  · intro w'
    go_simp
    with_reducible rfl
  rotate_left
  · simp only [Act.put, List.setIfInBounds_toArray, List.set_cons_zero, List.set_cons_succ, i64_w, i32_w]
    rfl
  refine pure_ (i := 2) (N := some 15) (v := ?_) (a' := ?_) #[false, true, true, false, false, false, false, false, false, false] rfl rfl (any_of HT_.out (by kernel_rfl)) (fun _ _ _ h => h) (Or.inl ⟨by rfl, ?_⟩) ?_ ?_
  rotate_left
  · intro w'
    go_simp
    with_reducible rfl
  rotate_left
  · simp only [Act.put, List.setIfInBounds_toArray, List.set_cons_zero, List.set_cons_succ, i64_w, i32_w]
    rfl
  refine pure_ (i := 4) (N := some 17) (v := ?_) (a' := ?_) #[false, true, true, false, true, false, false, false, false, false] rfl rfl (any_of HT_.out (by kernel_rfl)) (fun _ _ _ h => h) (Or.inl ⟨by rfl, ?_⟩) ?_ ?_
  rotate_left
  · intro w'
    go_simp
    with_reducible rfl
  rotate_left
  · simp only [Act.put, List.setIfInBounds_toArray, List.set_cons_zero, List.set_cons_succ, i64_w, i32_w]
    rfl
  refine take_ (i := 3) (N := some 16) (v := ?_) (a' := ?_) #[false, true, true, true, true, false, false, false, false, false] rfl rfl (take_ofW HT_.out HW_.out (by kernel_rfl)) (fun _ _ _ h => h) (Or.inl ⟨by rfl, ?_⟩) hHeld ?_ ?_
  rotate_left
  · rintro w' ⟨s0, s1, s2⟩
    go_simp
    with_reducible rfl
  rotate_left
  · simp only [Act.put, List.setIfInBounds_toArray, List.set_cons_zero, List.set_cons_succ, i64_w, i32_w]
    rfl
  refine pure_ (i := 5) (N := some 18) (v := ?_) (a' := ?_) #[false, true, true, true, true, true, false, false, false, false] rfl rfl (any_of HT_.out (by kernel_rfl)) (fun _ _ _ h => h) (Or.inl ⟨by rfl, ?_⟩) ?_ ?_
  rotate_left
  · intro w'
    go_simp
    with_reducible rfl
  rotate_left
  · simp only [Act.put, List.setIfInBounds_toArray, List.set_cons_zero, List.set_cons_succ, i64_w, i32_w]
    rfl
  refine pure_ (i := 6) (N := some 19) (v := ?_) (a' := ?_) #[false, true, true, true, true, true, true, false, false, false] rfl rfl (any_of HT_.out (by kernel_rfl)) (fun _ _ _ h => h) (Or.inl ⟨by rfl, ?_⟩) ?_ ?_
  rotate_left
  · intro w'
    go_simp
    with_reducible rfl
  rotate_left
  · simp only [Act.put, List.setIfInBounds_toArray, List.set_cons_zero, List.set_cons_succ, i64_w, i32_w]
    rfl
  refine take_ (i := 7) (N := some 20) (v := ?_) (a' := ?_) #[false, true, true, true, true, true, true, true, false, false] rfl rfl (take_ofW HT_.out HW_.out (by kernel_rfl)) (fun _ _ _ h => h) (Or.inl ⟨by rfl, ?_⟩) hHeld ?_ ?_
  rotate_left
  · rintro w' ⟨s0, s1, s2⟩
    go_simp
    with_reducible rfl
  rotate_left
  · simp only [Act.put, List.setIfInBounds_toArray, List.set_cons_zero, List.set_cons_succ, i64_w, i32_w]
    rfl
  refine one_ (i := 0) (N := some 13) #[true, true, true, true, true, true, true, true, false, false] rfl rfl (one_of HT_.out (by kernel_rfl)) (by decide) (fun K hK => ?_)
  refine Kd.R_lit_step (Kd.int .i64) _ 2 ?hg (N := 13) ?hd (xs := ([] : List Int)) (inner := []) (ok := fun _ => True) (okp := fun _ => True) ?hr ?hp (fun _ hk => hk) trivial (Below.refl _ _) (Nat.le_refl _) (by simp) ?_; (case hd => rfl); (case hg => rfl); (case hr => first | (go_simp; done) | (go_simp; rfl)); (case hp => exact (Reps.none _ _))
  intro v432 w9 ho10 hb hg_ hnew_
  clear hg_ hnew_
  (first | rw [← Ny431.out] at ho10 | (simp only [Int.reduceToNat] at ho10; rw [← Ny431.out] at ho10))
  have n0_ := Aside0.mk (Kd.R_lower ho10 (below_size (by repeat (first | (with_reducible first | exact HB.out | apply below_alloc | apply pw_below_drewN | apply below_drew1 | refine below_set ?_ GE430.out) | exact HB.out))))
  have n1_ := Aside0.mk (blk_below (g := gb430) (o := .cells #[.slice A0_0 l0_0.length c0_0, .slice A0_1 l0_1.length c0_1] 60 (0, 0)) (by (with_reducible repeat (first | refine blk_drewN ?_ _ | refine blk_drew ?_ | refine blk_alloc ?_ _)); exact BK430.out) hb)
  have n2_ := Aside0.mk (below_step (by repeat (first | (with_reducible first | exact HB.out | apply below_alloc | apply pw_below_drewN | apply below_drew1 | refine below_set ?_ GE430.out) | exact HB.out)) hb)
  clear BK430
  clear HB
  have HO433 := n0_
  have BK430 := n1_
  have HB := n2_
  clear n0_ n1_ n2_
  clear hb ho10
  refine hK.out _ _ ⟨((HB.out.cell (World.block_lt_of_cell? w _ hw434_0)).trans hw434_0), ((HB.out.cell (World.block_lt_of_cell? w _ hw435_0)).trans hw435_0), ((HB.out.cell (World.block_lt_of_cell? w _ hw435_1)).trans hw435_1)⟩ (fun hHeld => ?_)
  clear hK K
  refine norm_ (a' := ?_) ?_ ?_
  rotate_left
  · show Act.put _ (some 13) _ = _
    simp only [Act.put, List.setIfInBounds_toArray, List.set_cons_zero, List.set_cons_succ, i64_w, i32_w]
    rfl
  refine pure_ (i := 8) (N := some 7) (v := ?_) (a' := ?_) #[true, true, true, true, true, true, true, true, true, false] rfl rfl (any_of HT_.out (by kernel_rfl)) (fun _ _ _ h => h) (Or.inl ⟨by rfl, ?_⟩) ?_ ?_
  rotate_left
  · intro w'
    go_simp
    with_reducible rfl
  rotate_left
  · simp only [Act.put, List.setIfInBounds_toArray, List.set_cons_zero, List.set_cons_succ, i64_w, i32_w]
    rfl
  refine pure_ (i := 9) (N := some 8) (v := ?_) (a' := ?_) #[true, true, true, true, true, true, true, true, true, true] rfl rfl (any_of HT_.out (by kernel_rfl)) (fun _ _ _ h => h) (Or.inl ⟨by rfl, ?_⟩) ?_ ?_
  rotate_left
  · intro w'
    go_simp
    with_reducible rfl
  rotate_left
  · simp only [Act.put, List.setIfInBounds_toArray, List.set_cons_zero, List.set_cons_succ, i64_w, i32_w]
    rfl
  refine done_ (done_of HT_.out (by kernel_rfl)) ?_
  have hcz11_0 : w9.cell? ⟨gb430, 0, none⟩ = some (.slice A0_0 l0_0.length c0_0) := (blk_cell BK430.out 0).trans rfl
  have hcz11_1 : w9.cell? ⟨gb430, 1, none⟩ = some (.slice A0_1 l0_1.length c0_1) := (blk_cell BK430.out 1).trans rfl
  have hfz11_0 := blk_frozen BK430.out 0
  have hfz11_1 := blk_frozen BK430.out 1
  try go_wp2
  go_loopg [2, 7, 8, 24] k (fun kq v2 v7 v8 v24 w' => ∃ (x2_1 : Int) (x7_1 : List Int) (x8_1 : Int) (x24_1 : Int), v2 = .int .i64 x2_1 ∧ v8 = .int .i64 x8_1 ∧ v24 = .int .i64 x24_1 ∧ Aside0 (impl_purse_counts.l0 kq l1 x2_1 x7_1 x8_1 l0_0 (l0_0.length : Int) x24_1 = some r) ∧ Aside0 (kq ≤ k) ∧ Aside0 (Kd.R (Kd.int .i64) 2 w' w.heap.size (fun _ => True) v7 x7_1) ∧ Aside0 (w'.heap[gb430]? = some (.cells #[(.slice A0_0 l0_0.length c0_0), (.slice A0_1 l0_1.length c0_1)] 60 (0, 0))) ∧ Aside0 (Below w.heap.size w w'))
  case atStart => exact ⟨(a2), (y431), ((rd_T77 (rd_L7 l1 0) a2).f1), (0), (by first | rfl | (simp; done) | (simp [*]; done)), (by first | rfl | (simp; done) | (simp [*]; done)), (by first | rfl | (simp; done) | (simp [*]; done)), H', ⟨Nat.le_refl _⟩, ⟨by (with_reducible repeat (first | apply Kd.R_alloc | apply Kd.R_drewN | apply Kd.R_drew)); exact HO433.out⟩, ⟨by (with_reducible repeat (first | refine blk_drewN ?_ _ | refine blk_drew ?_ | refine blk_alloc ?_ _)); exact BK430.out⟩, ⟨by repeat (first | (with_reducible first | exact HB.out | apply below_alloc | apply pw_below_drewN | apply below_drew1 | refine below_set ?_ GE430.out) | exact HB.out)⟩⟩
  case round =>
    clear H'
    try clear c1
    try clear p2
    try clear c4
    try clear c4b0
    try clear c4b1
    try clear p4
    try clear q4
    try clear hx4
    try clear qi4
    try clear c5
    try clear c5b0
    try clear c6
    try clear c6b0
    try clear hcz11_0
    try clear hcz11_1
    try clear hfz11_0
    try clear hfz11_1
    try clear hx434_0
    try clear hx435_0
    try clear hx435_1
    try clear p434
    try clear p435
    try clear q434
    try clear q435
    obtain ⟨x2_1, x7_1, x8_1, x24_1, rfl, rfl, rfl, HA, HK1, HO_7, BK430, HB⟩ := hrel
    cases gk with
    | zero => exact absurd HA.out (by simp [impl_purse_counts.l0])
    | succ k1 =>
      have H := HA.out
      clear HA
      simp only [impl_purse_counts.l0] at H
      by_cases c12 : x24_1 < (l0_0.length : Int)
      rotate_left
      · rw [if_neg c12] at H
        have c12b0 : decide (x24_1 < (l0_0.length : Int)) = false := decide_eq_false c12
        clear c12
        obtain rfl := Option.some.inj H
        go_wp2
        go_ret
        exact ⟨_, by first | rfl | (simp [errW_none, errW_some] <;> rfl) | (simp [*, errW_none, errW_some] <;> rfl), by (with_reducible repeat (first | apply Kd.R_alloc | apply Kd.R_drewN | apply Kd.R_drew)); exact HO_7.out, by repeat (first | (with_reducible first | exact HB.out | apply below_alloc | apply pw_below_drewN | apply below_drew1 | refine below_set ?_ GE430.out) | exact HB.out)⟩
      rw [if_pos c12] at H
      have c12b0 : decide (x24_1 < (l0_0.length : Int)) = true := decide_eq_true c12
      clear c12
      by_cases c13 : 0 ≤ x24_1
      rotate_left
      · rw [if_neg c13] at H
        exact absurd H (by simp)
      rw [if_pos c13] at H
      have c13b0 : decide (0 ≤ x24_1) = true := decide_eq_true c13
      clear c13
      by_cases c14 : x24_1 < (l0_0.length : Int)
      rotate_left
      · rw [if_neg c14] at H
        exact absurd H (by simp)
      rw [if_pos c14] at H
      have c14b0 : decide (x24_1 < (l0_0.length : Int)) = true := decide_eq_true c14
      clear c14
      have H' := Aside0.mk H
      clear H
      have p436 : 0 ≤ (x24_1 : Int) := of_decide_eq_true (by first | (with_reducible assumption) | assumption)
      have q436 : x24_1 < (l0_0.length : Int) := of_decide_eq_true (by first | (with_reducible assumption) | assumption)
      obtain ⟨ad436, e436, hx436_0⟩ := Kd.at_int HR0_0.out x24_1 p436 q436
      cases e436
      replace hx436_0 := (HB.out.cell (World.block_lt_of_cell? w _ hx436_0)).trans hx436_0
      replace p436 := eq_true p436
      replace q436 := eq_true q436
      go_wp2
      go_loopg [2, 7, 8, 11] k1 (fun kq v2 v7 v8 v11 w' => ∃ (x2_2 : Int) (x7_2 : List Int) (x8_2 : Int) (x11_2 : Int), v2 = .int .i64 x2_2 ∧ v8 = .int .i64 x8_2 ∧ v11 = .int .i64 x11_2 ∧ Aside0 (impl_purse_counts.l1 kq l1 x2_2 x7_2 x8_2 x24_1 (rd l0_0 x24_1) x11_2 l0_0 (l0_0.length : Int) x24_1 = some r) ∧ Aside0 (kq ≤ k1) ∧ Aside0 (Kd.R (Kd.int .i64) 2 w' w.heap.size (fun _ => True) v7 x7_2) ∧ Aside0 (w'.heap[gb430]? = some (.cells #[(.slice (some ad436) l0_0.length c0_0), (.slice A0_1 l0_1.length c0_1)] 60 (0, 0))) ∧ Aside0 (Below w.heap.size w w'))
      case atStart => exact ⟨(x2_1), (x7_1), (x8_1), (0), (by first | rfl | (simp; done) | (simp [*]; done)), (by first | rfl | (simp; done) | (simp [*]; done)), (by first | rfl | (simp; done) | (simp [*]; done)), H', ⟨Nat.le_refl _⟩, ⟨by (with_reducible repeat (first | apply Kd.R_alloc | apply Kd.R_drewN | apply Kd.R_drew)); exact HO_7.out⟩, ⟨by (with_reducible repeat (first | refine blk_drewN ?_ _ | refine blk_drew ?_ | refine blk_alloc ?_ _)); exact BK430.out⟩, ⟨by repeat (first | (with_reducible first | exact HB.out | apply below_alloc | apply pw_below_drewN | apply below_drew1 | refine below_set ?_ GE430.out) | exact HB.out)⟩⟩
      case round =>
        clear H'
        try clear c1
        try clear p2
        try clear c4
        try clear c4b0
        try clear c4b1
        try clear p4
        try clear q4
        try clear hx4
        try clear qi4
        try clear c5
        try clear c5b0
        try clear c6
        try clear c6b0
        try clear c12
        try clear c12b0
        try clear c13
        try clear c13b0
        try clear c14
        try clear c14b0
        try clear hcz11_0
        try clear hcz11_1
        try clear hfz11_0
        try clear hfz11_1
        try clear hx434_0
        try clear hx435_0
        try clear hx435_1
        try clear hx436_0
        try clear p2
        try clear p4
        try clear p434
        try clear p435
        try clear p436
        try clear q4
        try clear q434
        try clear q435
        try clear q436
        obtain ⟨x2_2, x7_2, x8_2, x11_2, rfl, rfl, rfl, HA, HK2, HO_7, BK430, HB⟩ := hrel
        cases gk with
        | zero => exact absurd HA.out (by simp [impl_purse_counts.l1])
        | succ k2 =>
          have H := HA.out
          clear HA
          simp only [impl_purse_counts.l1] at H
          obtain ⟨ji15, hji15⟩ : ∃ j_ : Int, (wrap64 (x24_1 + 1)) = j_ := ⟨_, rfl⟩
          replace H : (if 0 ≤ (ji15) then (if (ji15) < (l1.length : Int) then (if 0 ≤ (wrap64 (x2_2 - (wrap64 (x11_2 * (rd l0_0 x24_1))))) then (if (wrap64 (x2_2 - (wrap64 (x11_2 * (rd l0_0 x24_1))))) < ((rd_L7 l1 (ji15)).length : Int) then (if ((rd_T77 (rd_L7 l1 (ji15)) (wrap64 (x2_2 - (wrap64 (x11_2 * (rd l0_0 x24_1)))))).f0) > 0 then (if (wrap64 (((rd_T77 (rd_L7 l1 (ji15)) (wrap64 (x2_2 - (wrap64 (x11_2 * (rd l0_0 x24_1)))))).f1) + x11_2)) = x8_2 then (if x7_2.length < 17592186044416 then (impl_purse_counts.l0 k2 l1 (wrap64 (x2_2 - (wrap64 (x11_2 * (rd l0_0 x24_1))))) (x7_2 ++ [x11_2]) (wrap64 (x8_2 - x11_2)) l0_0 (l0_0.length : Int) ji15) else (none)) else (impl_purse_counts.l1 k2 l1 x2_2 x7_2 x8_2 x24_1 (rd l0_0 x24_1) (wrap64 (x11_2 + 1)) l0_0 (l0_0.length : Int) x24_1)) else (impl_purse_counts.l1 k2 l1 x2_2 x7_2 x8_2 x24_1 (rd l0_0 x24_1) (wrap64 (x11_2 + 1)) l0_0 (l0_0.length : Int) x24_1)) else (none)) else (none)) else (none)) else (none)) = some r := by first | (rw [hji15] at H; exact H) | (simp only [hji15] at H ⊢; exact H)
          have hji15w : (IntKind.i64.wrap (x24_1 + 1)) = ji15 := (i64_w _).trans hji15
          by_cases c16 : 0 ≤ (ji15)
          rotate_left
          · rw [if_neg c16] at H
            exact absurd H (by simp)
          rw [if_pos c16] at H
          have c16b0 : decide (0 ≤ (ji15)) = true := decide_eq_true c16
          clear c16
          by_cases c17 : (ji15) < (l1.length : Int)
          rotate_left
          · rw [if_neg c17] at H
            exact absurd H (by simp)
          rw [if_pos c17] at H
          have c17b0 : decide ((ji15) < (l1.length : Int)) = true := decide_eq_true c17
          clear c17
          obtain ⟨ji18, hji18⟩ : ∃ j_ : Int, (wrap64 (x2_2 - (wrap64 (x11_2 * (rd l0_0 x24_1))))) = j_ := ⟨_, rfl⟩
          replace H : (if 0 ≤ (ji18) then (if (ji18) < ((rd_L7 l1 (ji15)).length : Int) then (if ((rd_T77 (rd_L7 l1 (ji15)) (ji18)).f0) > 0 then (if (wrap64 (((rd_T77 (rd_L7 l1 (ji15)) (ji18)).f1) + x11_2)) = x8_2 then (if x7_2.length < 17592186044416 then (impl_purse_counts.l0 k2 l1 ji18 (x7_2 ++ [x11_2]) (wrap64 (x8_2 - x11_2)) l0_0 (l0_0.length : Int) ji15) else (none)) else (impl_purse_counts.l1 k2 l1 x2_2 x7_2 x8_2 x24_1 (rd l0_0 x24_1) (wrap64 (x11_2 + 1)) l0_0 (l0_0.length : Int) x24_1)) else (impl_purse_counts.l1 k2 l1 x2_2 x7_2 x8_2 x24_1 (rd l0_0 x24_1) (wrap64 (x11_2 + 1)) l0_0 (l0_0.length : Int) x24_1)) else (none)) else (none)) = some r := by first | (rw [hji18] at H; exact H) | (simp only [hji18] at H ⊢; exact H)
          have hji18w : (IntKind.i64.wrap (x2_2 - (wrap64 (x11_2 * (rd l0_0 x24_1))))) = ji18 := (i64_w _).trans hji18
          by_cases c19 : 0 ≤ (ji18)
          rotate_left
          · rw [if_neg c19] at H
            exact absurd H (by simp)
          rw [if_pos c19] at H
          have c19b0 : decide (0 ≤ (ji18)) = true := decide_eq_true c19
          clear c19
          by_cases c20 : (ji18) < ((rd_L7 l1 (ji15)).length : Int)
          rotate_left
          · rw [if_neg c20] at H
            exact absurd H (by simp)
          rw [if_pos c20] at H
          have c20b0 : decide ((ji18) < ((rd_L7 l1 (ji15)).length : Int)) = true := decide_eq_true c20
          clear c20
          by_cases c21 : ((rd_T77 (rd_L7 l1 (ji15)) (ji18)).f0) > 0
          rotate_left
          · rw [if_neg c21] at H
            have c21b0 : decide (0 < ((rd_T77 (rd_L7 l1 (ji15)) (ji18)).f0)) = false := decide_eq_false c21
            clear c21
            have H' := Aside0.mk H
            clear H
            have p437 : 0 ≤ ((ji15) : Int) := of_decide_eq_true (by first | (with_reducible assumption) | assumption)
            have q437 : (ji15) < (l1.length : Int) := of_decide_eq_true (by first | (with_reducible assumption) | assumption)
            obtain ⟨ad437, A437_0, c437_0, e437, hx437_0, hl437_0, hi437_0⟩ := at_L7 HR1.out (ji15) p437 q437
            obtain rfl : ad434 = ad437 := (by injection e437)
            replace hx437_0 := (HB.out.cell (World.block_lt_of_cell? w _ hx437_0)).trans hx437_0
            have HR437_0 := Aside0.mk hi437_0
            have HC437_0 := Aside0.mk hl437_0
            clear hi437_0 hl437_0
            replace p437 := eq_true p437
            replace q437 := eq_true q437
            have p438 : 0 ≤ ((ji18) : Int) := of_decide_eq_true (by first | (with_reducible assumption) | assumption)
            have q438 : (ji18) < ((rd_L7 l1 (ji15)).length : Int) := of_decide_eq_true (by first | (with_reducible assumption) | assumption)
            obtain ⟨ad438, e438, hx438_0, hx438_1⟩ := at_T77 HR437_0.out (ji18) p438 q438
            cases e438
            replace hx438_0 := (HB.out.cell (World.block_lt_of_cell? w _ hx438_0)).trans hx438_0
            replace hx438_1 := (HB.out.cell (World.block_lt_of_cell? w _ hx438_1)).trans hx438_1
            replace p438 := eq_true p438
            replace q438 := eq_true q438
            go_wp2_with (first | ((with_reducible refine gate_dst (N := 12) rfl ?_); refine box_event ?hg (N := 12) ?hd (cs := #[.int .i64 0, .int .i64 0]) (t := 77) ?hr ?_; (case hd => rfl); (case hg => rfl); (case hr => first | (go_simp; done) | (go_simp; rfl)); intro gb439 hg w31 hbox hb; have n0_ := Aside0.mk (Kd.R_below (by (with_reducible repeat (first | apply Kd.R_alloc | apply Kd.R_drewN | apply Kd.R_drew)); exact HO_7.out) hb); have n1_ := Aside0.mk (blk_below (g := gb430) (o := .cells #[.slice (some ad436) l0_0.length c0_0, .slice A0_1 l0_1.length c0_1] 60 (0, 0)) (by (with_reducible repeat (first | refine blk_drewN ?_ _ | refine blk_drew ?_ | refine blk_alloc ?_ _)); exact BK430.out) hb); have n2_ := Aside0.mk (below_step (by repeat (first | (with_reducible first | exact HB.out | apply below_alloc | apply pw_below_drewN | apply below_drew1 | refine below_set ?_ GE430.out) | exact HB.out)) hb); have n3_ := Aside0.mk (hbox); have n4_ := Aside0.mk ((by rw [hg]; exact (below_size (by repeat (first | (with_reducible first | exact HB.out | apply below_alloc | apply pw_below_drewN | apply below_drew1 | refine below_set ?_ GE430.out) | exact HB.out))) : w.heap.size ≤ gb439)); have n5_ := Aside0.mk ((by rw [hg]; exact (below_size (by repeat (first | (with_reducible first | exact HB.out | apply below_alloc | apply pw_below_drewN | apply below_drew1 | refine below_set ?_ GE430.out) | exact HB.out))) : w.heap.size ≤ gb439)); have n6_ := Aside0.mk ((by rw [hg]; exact Nat.ne_of_lt (blk_lt (g := gb430) (o := .cells #[.slice (some ad436) l0_0.length c0_0, .slice A0_1 l0_1.length c0_1] 60 (0, 0)) (by (with_reducible repeat (first | refine blk_drewN ?_ _ | refine blk_drew ?_ | refine blk_alloc ?_ _)); exact BK430.out)) : gb430 ≠ gb439)); have n7_ := Aside0.mk ((by rw [hg]; exact Nat.ne_of_gt (blk_lt (g := gb430) (o := .cells #[.slice (some ad436) l0_0.length c0_0, .slice A0_1 l0_1.length c0_1] 60 (0, 0)) (by (with_reducible repeat (first | refine blk_drewN ?_ _ | refine blk_drew ?_ | refine blk_alloc ?_ _)); exact BK430.out)) : gb439 ≠ gb430)); clear HO_7; clear BK430; clear HB; have HO_7 := n0_; have BK430 := n1_; have HB := n2_; have BK439 := n3_; have GW439 := n4_; have GE439 := n5_; have NB430_439 := n6_; have NB439_430 := n7_; clear n0_ n1_ n2_ n3_ n4_ n5_ n6_ n7_; clear hb hbox hg; have hnb32 := NB439_430.out; have hnc32 := NB430_439.out; have hcz33_0 : w31.cell? ⟨gb439, 0, none⟩ = some (.int .i64 0) := (blk_cell BK439.out 0).trans rfl; have hcz33_1 : w31.cell? ⟨gb439, 1, none⟩ = some (.int .i64 0) := (blk_cell BK439.out 1).trans rfl; have hfz33_0 := blk_frozen BK439.out 0; have hfz33_1 := blk_frozen BK439.out 1))
            go_roundg k2
            case measure => have := HK1.out; have := HK2.out; omega
            case rel => exact ⟨(x2_2), (x7_2), (x8_2), (wrap64 (x11_2 + 1)), (by first | rfl | (simp; done) | (simp [*]; done)), (by first | rfl | (simp; done) | (simp [*]; done)), (by first | rfl | (simp; done) | (simp [*]; done)), H', ⟨by have := HK1.out; have := HK2.out; omega⟩, ⟨by (with_reducible repeat (first | apply Kd.R_alloc | apply Kd.R_drewN | apply Kd.R_drew)); exact Kd.R_mono (Kd.R_far (p := ⟨gb439, 1, none⟩) (Kd.R_far (p := ⟨gb439, 0, none⟩) (Kd.R_types HO_7.out BK439.out (by decide)) (fun _ hk => hk.2) (.int .i64 ((rd_T77 (rd_L7 l1 (ji15)) (ji18)).f0))) (fun _ hk => hk.2) (.int .i64 ((rd_T77 (rd_L7 l1 (ji15)) (ji18)).f1))) (fun _ hk => trivial)⟩, ⟨by (with_reducible repeat (first | refine blk_drewN ?_ _ | refine blk_drew ?_ | refine blk_alloc ?_ _)); refine blk_far ?_ NB430_439.out _; (with_reducible repeat (first | refine blk_drewN ?_ _ | refine blk_drew ?_ | refine blk_alloc ?_ _)); refine blk_far ?_ NB430_439.out _; (with_reducible repeat (first | refine blk_drewN ?_ _ | refine blk_drew ?_ | refine blk_alloc ?_ _)); exact BK430.out⟩, ⟨by repeat (first | (with_reducible first | exact HB.out | apply below_alloc | apply pw_below_drewN | apply below_drew1 | refine below_set ?_ GE430.out | refine below_set ?_ GE439.out) | exact HB.out)⟩⟩
          rw [if_pos c21] at H
          have c21b0 : decide (0 < ((rd_T77 (rd_L7 l1 (ji15)) (ji18)).f0)) = true := decide_eq_true c21
          clear c21
          by_cases c22 : (wrap64 (((rd_T77 (rd_L7 l1 (ji15)) (ji18)).f1) + x11_2)) = x8_2
          rotate_left
          · rw [if_neg c22] at H
            have c22b0 : ((wrap64 (((rd_T77 (rd_L7 l1 (ji15)) (ji18)).f1) + x11_2)) == x8_2) = false := beq_eq_false_iff_ne.mpr c22
            have c22b1 : ((wrap64 (((rd_T77 (rd_L7 l1 (ji15)) (ji18)).f1) + x11_2)) != x8_2) = true := bne_iff_ne.mpr c22
            have H' := Aside0.mk H
            clear H
            have p437 : 0 ≤ ((ji15) : Int) := of_decide_eq_true (by first | (with_reducible assumption) | assumption)
            have q437 : (ji15) < (l1.length : Int) := of_decide_eq_true (by first | (with_reducible assumption) | assumption)
            obtain ⟨ad437, A437_0, c437_0, e437, hx437_0, hl437_0, hi437_0⟩ := at_L7 HR1.out (ji15) p437 q437
            obtain rfl : ad434 = ad437 := (by injection e437)
            replace hx437_0 := (HB.out.cell (World.block_lt_of_cell? w _ hx437_0)).trans hx437_0
            have HR437_0 := Aside0.mk hi437_0
            have HC437_0 := Aside0.mk hl437_0
            clear hi437_0 hl437_0
            replace p437 := eq_true p437
            replace q437 := eq_true q437
            have p438 : 0 ≤ ((ji18) : Int) := of_decide_eq_true (by first | (with_reducible assumption) | assumption)
            have q438 : (ji18) < ((rd_L7 l1 (ji15)).length : Int) := of_decide_eq_true (by first | (with_reducible assumption) | assumption)
            obtain ⟨ad438, e438, hx438_0, hx438_1⟩ := at_T77 HR437_0.out (ji18) p438 q438
            cases e438
            replace hx438_0 := (HB.out.cell (World.block_lt_of_cell? w _ hx438_0)).trans hx438_0
            replace hx438_1 := (HB.out.cell (World.block_lt_of_cell? w _ hx438_1)).trans hx438_1
            replace p438 := eq_true p438
            replace q438 := eq_true q438
            go_wp2_with (first | ((with_reducible refine gate_dst (N := 12) rfl ?_); refine box_event ?hg (N := 12) ?hd (cs := #[.int .i64 0, .int .i64 0]) (t := 77) ?hr ?_; (case hd => rfl); (case hg => rfl); (case hr => first | (go_simp; done) | (go_simp; rfl)); intro gb439 hg w28 hbox hb; have n0_ := Aside0.mk (Kd.R_below (by (with_reducible repeat (first | apply Kd.R_alloc | apply Kd.R_drewN | apply Kd.R_drew)); exact HO_7.out) hb); have n1_ := Aside0.mk (blk_below (g := gb430) (o := .cells #[.slice (some ad436) l0_0.length c0_0, .slice A0_1 l0_1.length c0_1] 60 (0, 0)) (by (with_reducible repeat (first | refine blk_drewN ?_ _ | refine blk_drew ?_ | refine blk_alloc ?_ _)); exact BK430.out) hb); have n2_ := Aside0.mk (below_step (by repeat (first | (with_reducible first | exact HB.out | apply below_alloc | apply pw_below_drewN | apply below_drew1 | refine below_set ?_ GE430.out) | exact HB.out)) hb); have n3_ := Aside0.mk (hbox); have n4_ := Aside0.mk ((by rw [hg]; exact (below_size (by repeat (first | (with_reducible first | exact HB.out | apply below_alloc | apply pw_below_drewN | apply below_drew1 | refine below_set ?_ GE430.out) | exact HB.out))) : w.heap.size ≤ gb439)); have n5_ := Aside0.mk ((by rw [hg]; exact (below_size (by repeat (first | (with_reducible first | exact HB.out | apply below_alloc | apply pw_below_drewN | apply below_drew1 | refine below_set ?_ GE430.out) | exact HB.out))) : w.heap.size ≤ gb439)); have n6_ := Aside0.mk ((by rw [hg]; exact Nat.ne_of_lt (blk_lt (g := gb430) (o := .cells #[.slice (some ad436) l0_0.length c0_0, .slice A0_1 l0_1.length c0_1] 60 (0, 0)) (by (with_reducible repeat (first | refine blk_drewN ?_ _ | refine blk_drew ?_ | refine blk_alloc ?_ _)); exact BK430.out)) : gb430 ≠ gb439)); have n7_ := Aside0.mk ((by rw [hg]; exact Nat.ne_of_gt (blk_lt (g := gb430) (o := .cells #[.slice (some ad436) l0_0.length c0_0, .slice A0_1 l0_1.length c0_1] 60 (0, 0)) (by (with_reducible repeat (first | refine blk_drewN ?_ _ | refine blk_drew ?_ | refine blk_alloc ?_ _)); exact BK430.out)) : gb439 ≠ gb430)); clear HO_7; clear BK430; clear HB; have HO_7 := n0_; have BK430 := n1_; have HB := n2_; have BK439 := n3_; have GW439 := n4_; have GE439 := n5_; have NB430_439 := n6_; have NB439_430 := n7_; clear n0_ n1_ n2_ n3_ n4_ n5_ n6_ n7_; clear hb hbox hg; have hnb29 := NB439_430.out; have hnc29 := NB430_439.out; have hcz30_0 : w28.cell? ⟨gb439, 0, none⟩ = some (.int .i64 0) := (blk_cell BK439.out 0).trans rfl; have hcz30_1 : w28.cell? ⟨gb439, 1, none⟩ = some (.int .i64 0) := (blk_cell BK439.out 1).trans rfl; have hfz30_0 := blk_frozen BK439.out 0; have hfz30_1 := blk_frozen BK439.out 1))
            go_roundg k2
            case measure => have := HK1.out; have := HK2.out; omega
            case rel => exact ⟨(x2_2), (x7_2), (x8_2), (wrap64 (x11_2 + 1)), (by first | rfl | (simp; done) | (simp [*]; done)), (by first | rfl | (simp; done) | (simp [*]; done)), (by first | rfl | (simp; done) | (simp [*]; done)), H', ⟨by have := HK1.out; have := HK2.out; omega⟩, ⟨by (with_reducible repeat (first | apply Kd.R_alloc | apply Kd.R_drewN | apply Kd.R_drew)); exact Kd.R_mono (Kd.R_far (p := ⟨gb439, 1, none⟩) (Kd.R_far (p := ⟨gb439, 0, none⟩) (Kd.R_types HO_7.out BK439.out (by decide)) (fun _ hk => hk.2) (.int .i64 ((rd_T77 (rd_L7 l1 (ji15)) (ji18)).f0))) (fun _ hk => hk.2) (.int .i64 ((rd_T77 (rd_L7 l1 (ji15)) (ji18)).f1))) (fun _ hk => trivial)⟩, ⟨by (with_reducible repeat (first | refine blk_drewN ?_ _ | refine blk_drew ?_ | refine blk_alloc ?_ _)); refine blk_far ?_ NB430_439.out _; (with_reducible repeat (first | refine blk_drewN ?_ _ | refine blk_drew ?_ | refine blk_alloc ?_ _)); refine blk_far ?_ NB430_439.out _; (with_reducible repeat (first | refine blk_drewN ?_ _ | refine blk_drew ?_ | refine blk_alloc ?_ _)); exact BK430.out⟩, ⟨by repeat (first | (with_reducible first | exact HB.out | apply below_alloc | apply pw_below_drewN | apply below_drew1 | refine below_set ?_ GE430.out | refine below_set ?_ GE439.out) | exact HB.out)⟩⟩
          rw [if_pos c22] at H
          have c22b0 : ((wrap64 (((rd_T77 (rd_L7 l1 (ji15)) (ji18)).f1) + x11_2)) == x8_2) = true := beq_iff_eq.mpr c22
          have c22b1 : ((wrap64 (((rd_T77 (rd_L7 l1 (ji15)) (ji18)).f1) + x11_2)) != x8_2) = false := bne_eq_false_iff_eq.mpr c22
          clear c22
          by_cases c23 : x7_2.length < 17592186044416
          rotate_left
          · rw [if_neg c23] at H
            exact absurd H (by simp)
          rw [if_pos c23] at H
          have LMc23 := Aside0.mk c23
          clear c23
          obtain ⟨y440, hy440⟩ : ∃ y_ : List Int, y_ = (x7_2 ++ [x11_2]) := ⟨_, rfl⟩
          replace H : (impl_purse_counts.l0 k2 l1 ji18 y440 (wrap64 (x8_2 - x11_2)) l0_0 (l0_0.length : Int) ji15) = some r := by first | (rw [hy440]; with_reducible exact H) | (have H2_ := (Option.bind_some _ _).symm.trans H; rw [hy440]; with_reducible exact H2_) | (have H2_ := (Option.bind_some _ _).symm.trans H; with_reducible exact H2_) | with_reducible exact H | (rw [hy440]; exact H) | exact H
          have Ny440 := Aside0.mk hy440
          clear hy440
          have H' := Aside0.mk H
          clear H
          have p437 : 0 ≤ ((ji15) : Int) := of_decide_eq_true (by first | (with_reducible assumption) | assumption)
          have q437 : (ji15) < (l1.length : Int) := of_decide_eq_true (by first | (with_reducible assumption) | assumption)
          obtain ⟨ad437, A437_0, c437_0, e437, hx437_0, hl437_0, hi437_0⟩ := at_L7 HR1.out (ji15) p437 q437
          obtain rfl : ad434 = ad437 := (by injection e437)
          replace hx437_0 := (HB.out.cell (World.block_lt_of_cell? w _ hx437_0)).trans hx437_0
          have HR437_0 := Aside0.mk hi437_0
          have HC437_0 := Aside0.mk hl437_0
          clear hi437_0 hl437_0
          replace p437 := eq_true p437
          replace q437 := eq_true q437
          have p438 : 0 ≤ ((ji18) : Int) := of_decide_eq_true (by first | (with_reducible assumption) | assumption)
          have q438 : (ji18) < ((rd_L7 l1 (ji15)).length : Int) := of_decide_eq_true (by first | (with_reducible assumption) | assumption)
          obtain ⟨ad438, e438, hx438_0, hx438_1⟩ := at_T77 HR437_0.out (ji18) p438 q438
          cases e438
          replace hx438_0 := (HB.out.cell (World.block_lt_of_cell? w _ hx438_0)).trans hx438_0
          replace hx438_1 := (HB.out.cell (World.block_lt_of_cell? w _ hx438_1)).trans hx438_1
          replace p438 := eq_true p438
          replace q438 := eq_true q438
          go_wp2_with (first | ((with_reducible refine gate_dst (N := 12) rfl ?_); refine box_event ?hg (N := 12) ?hd (cs := #[.int .i64 0, .int .i64 0]) (t := 77) ?hr ?_; (case hd => rfl); (case hg => rfl); (case hr => first | (go_simp; done) | (go_simp; rfl)); intro gb439 hg w24 hbox hb; have n0_ := Aside0.mk (Kd.R_below (by (with_reducible repeat (first | apply Kd.R_alloc | apply Kd.R_drewN | apply Kd.R_drew)); exact HO_7.out) hb); have n1_ := Aside0.mk (blk_below (g := gb430) (o := .cells #[.slice (some ad436) l0_0.length c0_0, .slice A0_1 l0_1.length c0_1] 60 (0, 0)) (by (with_reducible repeat (first | refine blk_drewN ?_ _ | refine blk_drew ?_ | refine blk_alloc ?_ _)); exact BK430.out) hb); have n2_ := Aside0.mk (below_step (by repeat (first | (with_reducible first | exact HB.out | apply below_alloc | apply pw_below_drewN | apply below_drew1 | refine below_set ?_ GE430.out) | exact HB.out)) hb); have n3_ := Aside0.mk (hbox); have n4_ := Aside0.mk ((by rw [hg]; exact (below_size (by repeat (first | (with_reducible first | exact HB.out | apply below_alloc | apply pw_below_drewN | apply below_drew1 | refine below_set ?_ GE430.out) | exact HB.out))) : w.heap.size ≤ gb439)); have n5_ := Aside0.mk ((by rw [hg]; exact (below_size (by repeat (first | (with_reducible first | exact HB.out | apply below_alloc | apply pw_below_drewN | apply below_drew1 | refine below_set ?_ GE430.out) | exact HB.out))) : w.heap.size ≤ gb439)); have n6_ := Aside0.mk ((by rw [hg]; exact Nat.ne_of_lt (blk_lt (g := gb430) (o := .cells #[.slice (some ad436) l0_0.length c0_0, .slice A0_1 l0_1.length c0_1] 60 (0, 0)) (by (with_reducible repeat (first | refine blk_drewN ?_ _ | refine blk_drew ?_ | refine blk_alloc ?_ _)); exact BK430.out)) : gb430 ≠ gb439)); have n7_ := Aside0.mk ((by rw [hg]; exact Nat.ne_of_gt (blk_lt (g := gb430) (o := .cells #[.slice (some ad436) l0_0.length c0_0, .slice A0_1 l0_1.length c0_1] 60 (0, 0)) (by (with_reducible repeat (first | refine blk_drewN ?_ _ | refine blk_drew ?_ | refine blk_alloc ?_ _)); exact BK430.out)) : gb439 ≠ gb430)); clear HO_7; clear BK430; clear HB; have HO_7 := n0_; have BK430 := n1_; have HB := n2_; have BK439 := n3_; have GW439 := n4_; have GE439 := n5_; have NB430_439 := n6_; have NB439_430 := n7_; clear n0_ n1_ n2_ n3_ n4_ n5_ n6_ n7_; clear hb hbox hg; have hnb25 := NB439_430.out; have hnc25 := NB430_439.out; have hcz26_0 : w24.cell? ⟨gb439, 0, none⟩ = some (.int .i64 0) := (blk_cell BK439.out 0).trans rfl; have hcz26_1 : w24.cell? ⟨gb439, 1, none⟩ = some (.int .i64 0) := (blk_cell BK439.out 1).trans rfl; have hfz26_0 := blk_frozen BK439.out 0; have hfz26_1 := blk_frozen BK439.out 1) | ((with_reducible refine gate_builtin (b := .append) (xs := #[.tmp 54, .tmp 56]) rfl ?_); at_builtin; refine Kd.R_append (Kd.int .i64) (w0 := w) w.heap.size rfl (.tmp 54) (.tmp 56) 22 2 (.int .i64 0) 8 rfl Try.underlying22 info2 rfl (by decide) (by omega) u7 x7_2 x11_2 [.int .i64 x11_2] (fun _ => True) (fun _ => False) rfl (by first | (go_simp; done) | (go_simp; rfl)) ?aP (fun _ hk => hk.elim) ?aF ?aO ?aB ?aS ?aL ?_; (case aP => exact rfl); (case aB => exact (by repeat (first | (with_reducible first | exact HB.out | apply below_alloc | apply pw_below_drewN | apply below_drew1 | refine below_set ?_ GE430.out | refine below_set ?_ GE439.out) | exact HB.out))); (case aF => exact (fun _ _ => trivial)); (case aO => exact (by (with_reducible repeat (first | apply Kd.R_alloc | apply Kd.R_drewN | apply Kd.R_drew)); exact Kd.R_mono (Kd.R_far (p := ⟨gb439, 1, none⟩) (Kd.R_far (p := ⟨gb439, 0, none⟩) (Kd.R_types HO_7.out BK439.out (by decide)) (fun _ hk => hk.2) (.int .i64 ((rd_T77 (rd_L7 l1 (ji15)) (ji18)).f0))) (fun _ hk => hk.2) (.int .i64 ((rd_T77 (rd_L7 l1 (ji15)) (ji18)).f1))) (fun _ hk => trivial))); (case aS => exact (below_size (by repeat (first | (with_reducible first | exact HB.out | apply below_alloc | apply pw_below_drewN | apply below_drew1 | refine below_set ?_ GE430.out | refine below_set ?_ GE439.out) | exact HB.out)))); (case aL => have := LMc23.out; omega); intro v441 w27 ho hb hg hat; rw [← Ny440.out] at ho; have n0_ := Aside0.mk (blk_grown (g := gb430) (o := .cells #[.slice (some ad436) l0_0.length c0_0, .slice A0_1 l0_1.length c0_1] 60 (0, 0)) (by (with_reducible repeat (first | refine blk_drewN ?_ _ | refine blk_drew ?_ | refine blk_alloc ?_ _)); refine blk_far ?_ NB430_439.out _; (with_reducible repeat (first | refine blk_drewN ?_ _ | refine blk_drew ?_ | refine blk_alloc ?_ _)); refine blk_far ?_ NB430_439.out _; (with_reducible repeat (first | refine blk_drewN ?_ _ | refine blk_drew ?_ | refine blk_alloc ?_ _)); exact BK430.out) hg (Kd.R_ne HO_7.out BK430.out (by decide))); have n1_ := Aside0.mk (blk_grown (g := gb439) (o := .cells #[.int .i64 ((rd_T77 (rd_L7 l1 (ji15)) (ji18)).f0), .int .i64 ((rd_T77 (rd_L7 l1 (ji15)) (ji18)).f1)] 77 (0, 0)) (by (with_reducible repeat (first | refine blk_drewN ?_ _ | refine blk_drew ?_ | refine blk_alloc ?_ _)); refine blk_put (cs := #[.int .i64 ((rd_T77 (rd_L7 l1 (ji15)) (ji18)).f0), .int .i64 0]) ?_ 1 _ rfl; (with_reducible repeat (first | refine blk_drewN ?_ _ | refine blk_drew ?_ | refine blk_alloc ?_ _)); refine blk_put (cs := #[.int .i64 0, .int .i64 0]) ?_ 0 _ rfl; (with_reducible repeat (first | refine blk_drewN ?_ _ | refine blk_drew ?_ | refine blk_alloc ?_ _)); exact BK439.out) hg (Kd.R_ne HO_7.out BK439.out (by decide))); have n2_ := Aside0.mk (hb); have n3_ := Aside0.mk (ho); clear BK430; clear BK439; clear HB; clear HO_7; have BK430 := n0_; have BK439 := n1_; have HB := n2_; have HO442 := n3_; clear n0_ n1_ n2_ n3_; clear ho hb hg hat))
          go_roundg k2
          case measure => have := HK1.out; have := HK2.out; omega
          case rel => exact ⟨(ji18), (y440), (wrap64 (x8_2 - x11_2)), (ji15), (by first | rfl | (simp; done) | (simp only [← hji18] <;> (first | rfl | simp)) | (simp [*]; done)), (by first | rfl | (simp; done) | (simp [*]; done)), (by first | rfl | (simp; done) | (simp only [← hji15] <;> (first | rfl | simp)) | (simp [*]; done)), H', ⟨by have := HK1.out; have := HK2.out; omega⟩, ⟨by (with_reducible repeat (first | apply Kd.R_alloc | apply Kd.R_drewN | apply Kd.R_drew)); exact HO442.out⟩, ⟨by (with_reducible repeat (first | refine blk_drewN ?_ _ | refine blk_drew ?_ | refine blk_alloc ?_ _)); exact BK430.out⟩, ⟨by repeat (first | (with_reducible first | exact HB.out | apply below_alloc | apply pw_below_drewN | apply below_drew1 | refine below_set ?_ GE430.out | refine below_set ?_ GE439.out) | exact HB.out)⟩⟩
end Go.Proofs.Ytnhcdfikjfjkoaa.P

namespace Go.Proofs.Ytnhcdfikjfjkoaa.P
open Go.RowKit Go.Proofs.YtnhcdfikjfjkoaaW.PrintWords Go.Proofs.YtnhcdfikjfjkoaaW.PrintLast Go.Proofs.YtnhcdfikjfjkoaaW.PrintMore
attribute [local go_sem] max2_int min2_int max_two min_two max_three min_three max_four min_four   -- for this text's walks alone
set_option linter.unusedVariables false
set_option linter.unusedSimpArgs false

/-! ### impl_OverFrom: function 31 -/
def impl_OverFrom.l0 : Nat → Int → List (List (S77)) → Int → List Int → List Int → Option (List Int × Int × Int)
  | 0, _, _, _, _, _ => none
  | k + 1, x1, x9, x10, x543000, x543001 => if x10 ≤ (wrap64 (x1 + 500)) then (if 0 < (x9.length : Int) then (if 0 ≤ x10 then (if x10 < ((rd_L7 x9 0).length : Int) then (if ((rd_T77 (rd_L7 x9 0) x10).f0) > 0 then ((impl_purse_counts.f k x543000 x543001 x9 x10).bind fun t548 => (some (t548, x10, 0))) else (impl_OverFrom.l0 k x1 x9 (wrap64 (x10 + 1)) x543000 x543001)) else (none)) else (none)) else (none)) else (some (([] : List Int), 0, 6))
def impl_OverFrom.f (k : Nat) (l0 : List (S56)) (a1 : Int) : Option (List Int × Int × Int) := (impl_stockCode.f k l0 (([a1] : List Int))).bind fun t535 => (if t535 = 0 then ((impl_purseOf.f k l0).bind fun bt536 => ((impl_purse_table.f k bt536.1 bt536.2 (wrap64 (a1 + 500))).bind fun t543 => (impl_OverFrom.l0 k a1 t543 a1 bt536.1 bt536.2))) else (some (([] : List Int), 0, t535)))
theorem impl_OverFrom.mono_l : ∀ k, (∀ y0 y1 y2 y3 y4, LeO (impl_OverFrom.l0 k y0 y1 y2 y3 y4) (impl_OverFrom.l0 (k + 1) y0 y1 y2 y3 y4))
  | 0 => fun _ _ _ _ _ r h => by simp [impl_OverFrom.l0] at h
  | k + 1 => by
    have ih0 := impl_OverFrom.mono_l k
    · intro y0 y1 y2 y3 y4
      unfold impl_OverFrom.l0
      repeat' first
      | (with_reducible exact ih0 _ _ _ _ _)
      | (with_reducible exact impl_purseOf.mono _ _)
      | (with_reducible exact impl_purse_counts.mono _ _ _ _ _)
      | (with_reducible exact impl_purse_table.mono _ _ _ _)
      | (with_reducible exact impl_stockCode.mono _ _ _)
      | (with_reducible exact LeO.refl _)
      | (with_reducible exact LeO.none _)
      | (with_reducible refine LeO.ite ?_ ?_)
      | (with_reducible refine LeO.bind ?_ (fun _ => ?_))
      | exact ih0 _ _ _ _ _
      | exact impl_purseOf.mono _ _
      | exact impl_purse_counts.mono _ _ _ _ _
      | exact impl_purse_table.mono _ _ _ _
      | exact impl_stockCode.mono _ _ _
      | exact LeO.none _
      | refine LeO.ite ?_ ?_
      | refine LeO.bind ?_ (fun _ => ?_)
theorem impl_OverFrom.mono : ∀ a0 a1 k, LeO (impl_OverFrom.f k a0 a1) (impl_OverFrom.f (k + 1) a0 a1) := by
  intro a0 a1 k
  have ih0 := impl_OverFrom.mono_l k
  unfold impl_OverFrom.f
  repeat' first
      | (with_reducible exact ih0 _ _ _ _ _)
      | (with_reducible exact impl_purseOf.mono _ _)
      | (with_reducible exact impl_purse_counts.mono _ _ _ _ _)
      | (with_reducible exact impl_purse_table.mono _ _ _ _)
      | (with_reducible exact impl_stockCode.mono _ _ _)
      | (with_reducible exact LeO.refl _)
      | (with_reducible exact LeO.none _)
      | (with_reducible refine LeO.ite ?_ ?_)
      | (with_reducible refine LeO.bind ?_ (fun _ => ?_))
      | exact ih0 _ _ _ _ _
      | exact impl_purseOf.mono _ _
      | exact impl_purse_counts.mono _ _ _ _ _
      | exact impl_purse_table.mono _ _ _ _
      | exact impl_stockCode.mono _ _ _
      | exact LeO.none _
      | refine LeO.ite ?_ ?_
      | refine LeO.bind ?_ (fun _ => ?_)
set_option maxHeartbeats 8000000 in
set_option maxRecDepth 100000 in
theorem impl_OverFrom.calls (k : Nat) (A0 : Option Addr) (c0 : Nat) (l0 : List (S56)) (a1 : Int) (r1 : List Int) (r2 : Int) (r3 : Int) (w : World) (hr0 : Kd.C k56 w A0 l0.length l0) (hc0 : l0.length ≤ c0) (h : impl_OverFrom.f k l0 a1 = some (r1, r2, r3)) :
    Calls Try.prog 31 #[.slice A0 l0.length c0, .int .i64 a1] w fun e w' => ∃ v0_ : Value, e = .returned (.tuple #[v0_, .int .i64 r2, .int .i64 r3]) ∧ Kd.R (Kd.int .i64) 2 w' w.heap.size (fun _ => True) v0_ r1 ∧ Below w.heap.size w w' := by
  have hu60 := Try.underlying60
  have HR0 := Aside0.mk hr0
  have HC0 := Aside0.mk hc0
  clear hr0 hc0
  have HB := Aside0.mk (Below.refl w.heap.size w)
  have H : ((impl_stockCode.f k l0 (([a1] : List Int))).bind fun t535 => (if t535 = 0 then ((impl_purseOf.f k l0).bind fun bt536 => ((impl_purse_table.f k bt536.1 bt536.2 (wrap64 (a1 + 500))).bind fun t543 => (impl_OverFrom.l0 k a1 t543 a1 bt536.1 bt536.2))) else (some (([] : List Int), 0, t535)))) = some (r1, r2, r3) := h
  clear h
  obtain ⟨y532, hy532⟩ : ∃ y_ : List Int, y_ = (([a1] : List Int)) := ⟨_, rfl⟩
  replace H : ((impl_stockCode.f k l0 y532).bind fun t535 => (if t535 = 0 then ((impl_purseOf.f k l0).bind fun bt536 => ((impl_purse_table.f k bt536.1 bt536.2 (wrap64 (a1 + 500))).bind fun t543 => (impl_OverFrom.l0 k a1 t543 a1 bt536.1 bt536.2))) else (some (([] : List Int), 0, t535)))) = some (r1, r2, r3) := by first | (rw [hy532]; with_reducible exact H) | (have H2_ := (Option.bind_some _ _).symm.trans H; rw [hy532]; with_reducible exact H2_) | (have H2_ := (Option.bind_some _ _).symm.trans H; with_reducible exact H2_) | with_reducible exact H | (rw [hy532]; exact H) | exact H
  have Ny532 := Aside0.mk hy532
  clear hy532
  replace H := Option.bind_eq_some_iff.mp H
  obtain ⟨t535, A30, H⟩ := H
  replace H : (if t535 = 0 then ((impl_purseOf.f k l0).bind fun bt536 => ((impl_purse_table.f k bt536.1 bt536.2 (wrap64 (a1 + 500))).bind fun t543 => (impl_OverFrom.l0 k a1 t543 a1 bt536.1 bt536.2))) else (some (([] : List Int), 0, t535))) = some (r1, r2, r3) := H
  have A3 := Aside0.mk A30
  clear A30
  by_cases c4 : t535 = 0
  rotate_left
  · rw [if_neg c4] at H
    have c4b0 : (t535 == 0) = false := beq_eq_false_iff_ne.mpr c4
    have c4b1 : (t535 != 0) = true := bne_iff_ne.mpr c4
    simp only [Option.some.injEq, Prod.mk.injEq] at H
    obtain ⟨rfl, rfl, rfl⟩ := H
    go_enter Try.func31, Try.ntmps31
    go_wp2_with (first | ((with_reducible refine gate_dst (N := 13) rfl ?_); refine Kd.R_lit (Kd.int .i64) _ 2 ?hg (N := 13) ?hd (xs := ([a1] : List Int)) (inner := [.int .i64 a1]) (ok := fun _ => True) (okp := fun _ => True) ?hr ?hp (fun _ hk => hk) trivial (Below.refl _ _) (Nat.le_refl _) (by simp) ?_; (case hd => rfl); (case hg => rfl); (case hr => first | (go_simp; done) | (go_simp; rfl)); (case hp => exact (Reps.one (show Kd.M (Kd.int .i64) _ _ _ a1 [.int .i64 a1] from rfl) (Reps.none _ _))); intro v533 w27 ho28 hb hg_ hnew_; clear hg_ hnew_; (first | rw [← Ny532.out] at ho28 | (simp only [Int.reduceToNat] at ho28; rw [← Ny532.out] at ho28)); have n0_ := Aside0.mk (Kd.R_lower ho28 (below_size (by repeat (first | (with_reducible first | exact HB.out | apply below_alloc | apply pw_below_drewN | apply below_drew1) | exact HB.out)))); have n1_ := Aside0.mk (below_step (by repeat (first | (with_reducible first | exact HB.out | apply below_alloc | apply pw_below_drewN | apply below_drew1) | exact HB.out)) hb); clear HB; have HO534 := n0_; have HB := n1_; clear n0_ n1_; clear hb ho28; obtain ⟨Ao29, co29, eo29⟩ := Kd.R_slice HO534.out; subst eo29) | ((with_reducible refine gate_callee (f := 58) rfl ?_); refine goesL_ (some 14) rfl rfl Try.func58 (by kernel_rfl) rfl #[.slice A0 l0.length c0, .slice Ao29 y532.length co29] rfl (by (try simp only [List.map_toArray, List.map_cons, List.map_nil]); first | done | rfl | (simp only [List.length_drop, List.length_take]; rfl)) ?_; (with_reducible refine (impl_stockCode.calls k _ _ l0 _ _ y532 t535 _ ?side1 ?side2 ?side3 ?side4 A3.out).mono ?_); (case side1 => repeat (first | exact (Kd.C_below HR0.out HB.out) | (with_reducible refine Kd.C_alloc ?_ _) | (with_reducible refine Kd.C_drewN ?_ _) | (with_reducible refine Kd.C_drew ?_))); (case side2 => exact HC0.out); (case side3 => repeat (first | exact (Kd.R_reads' HO534.out).2.2 | (with_reducible refine Kd.C_alloc ?_ _) | (with_reducible refine Kd.C_drewN ?_ _) | (with_reducible refine Kd.C_drew ?_))); (case side4 => exact (Kd.R_reads' HO534.out).2.1); rintro e w30 ⟨rfl, hb⟩; refine ⟨_, rfl, ?_⟩; have n0_ := Aside0.mk (Kd.R_below (by (with_reducible repeat (first | apply Kd.R_alloc | apply Kd.R_drewN | apply Kd.R_drew)); exact HO534.out) hb); have n1_ := Aside0.mk (below_step (by repeat (first | (with_reducible first | exact HB.out | apply below_alloc | apply pw_below_drewN | apply below_drew1) | exact HB.out)) hb); clear HO534; clear HB; have HO534 := n0_; have HB := n1_; clear n0_ n1_; (try clear hb); (try clear hb2); (try clear hk); (try clear hi)))
    go_ret3
    exact ⟨_, by first | rfl | (simp [errW_none, errW_some] <;> rfl) | (simp [*, errW_none, errW_some] <;> rfl), by first | exact Kd.R_nil _ _ _ _ _ | exact Kd.N_nil _ _ _ _ _ | exact Kd.V_nil _ _ _ _ _ | exact Kd.Q_nil _ _ _ _ _ | exact Kd.S_nil _ _ _ _ _, by repeat (first | (with_reducible first | exact HB.out | apply below_alloc | apply pw_below_drewN | apply below_drew1) | exact HB.out)⟩

  rw [if_pos c4] at H
  have c4b0 : (t535 == 0) = true := beq_iff_eq.mpr c4
  have c4b1 : (t535 != 0) = false := bne_eq_false_iff_eq.mpr c4
  clear c4
  replace H := Option.bind_eq_some_iff.mp H
  obtain ⟨⟨t536, t539⟩, A50, H⟩ := H
  replace H : ((impl_purse_table.f k t536 t539 (wrap64 (a1 + 500))).bind fun t543 => (impl_OverFrom.l0 k a1 t543 a1 t536 t539)) = some (r1, r2, r3) := H
  have A5 := Aside0.mk A50
  clear A50
  replace H := Option.bind_eq_some_iff.mp H
  obtain ⟨t543, A60, H⟩ := H
  replace H : (impl_OverFrom.l0 k a1 t543 a1 t536 t539) = some (r1, r2, r3) := H
  have A6 := Aside0.mk A60
  clear A60
  have H' := Aside0.mk H
  clear H
  go_enter Try.func31, Try.ntmps31
  go_wp2_with (first | ((with_reducible refine gate_dst (N := 13) rfl ?_); refine Kd.R_lit (Kd.int .i64) _ 2 ?hg (N := 13) ?hd (xs := ([a1] : List Int)) (inner := [.int .i64 a1]) (ok := fun _ => True) (okp := fun _ => True) ?hr ?hp (fun _ hk => hk) trivial (Below.refl _ _) (Nat.le_refl _) (by simp) ?_; (case hd => rfl); (case hg => rfl); (case hr => first | (go_simp; done) | (go_simp; rfl)); (case hp => exact (Reps.one (show Kd.M (Kd.int .i64) _ _ _ a1 [.int .i64 a1] from rfl) (Reps.none _ _))); intro v533 w7 ho8 hb hg_ hnew_; clear hg_ hnew_; (first | rw [← Ny532.out] at ho8 | (simp only [Int.reduceToNat] at ho8; rw [← Ny532.out] at ho8)); have n0_ := Aside0.mk (Kd.R_lower ho8 (below_size (by repeat (first | (with_reducible first | exact HB.out | apply below_alloc | apply pw_below_drewN | apply below_drew1) | exact HB.out)))); have n1_ := Aside0.mk (below_step (by repeat (first | (with_reducible first | exact HB.out | apply below_alloc | apply pw_below_drewN | apply below_drew1) | exact HB.out)) hb); clear HB; have HO534 := n0_; have HB := n1_; clear n0_ n1_; clear hb ho8; obtain ⟨Ao9, co9, eo9⟩ := Kd.R_slice HO534.out; subst eo9) | ((with_reducible refine gate_callee (f := 58) rfl ?_); refine goesL_ (some 14) rfl rfl Try.func58 (by kernel_rfl) rfl #[.slice A0 l0.length c0, .slice Ao9 y532.length co9] rfl (by (try simp only [List.map_toArray, List.map_cons, List.map_nil]); first | done | rfl | (simp only [List.length_drop, List.length_take]; rfl)) ?_; (with_reducible refine (impl_stockCode.calls k _ _ l0 _ _ y532 t535 _ ?side1 ?side2 ?side3 ?side4 A3.out).mono ?_); (case side1 => repeat (first | exact (Kd.C_below HR0.out HB.out) | (with_reducible refine Kd.C_alloc ?_ _) | (with_reducible refine Kd.C_drewN ?_ _) | (with_reducible refine Kd.C_drew ?_))); (case side2 => exact HC0.out); (case side3 => repeat (first | exact (Kd.R_reads' HO534.out).2.2 | (with_reducible refine Kd.C_alloc ?_ _) | (with_reducible refine Kd.C_drewN ?_ _) | (with_reducible refine Kd.C_drew ?_))); (case side4 => exact (Kd.R_reads' HO534.out).2.1); rintro e w10 ⟨rfl, hb⟩; refine ⟨_, rfl, ?_⟩; have n0_ := Aside0.mk (Kd.R_below (by (with_reducible repeat (first | apply Kd.R_alloc | apply Kd.R_drewN | apply Kd.R_drew)); exact HO534.out) hb); have n1_ := Aside0.mk (below_step (by repeat (first | (with_reducible first | exact HB.out | apply below_alloc | apply pw_below_drewN | apply below_drew1) | exact HB.out)) hb); clear HO534; clear HB; have HO534 := n0_; have HB := n1_; clear n0_ n1_; (try clear hb); (try clear hb2); (try clear hk); (try clear hi)) | ((with_reducible refine gate_callee (f := 49) rfl ?_); refine goesL_ (some 19) rfl rfl Try.func49 (by kernel_rfl) rfl #[.slice A0 l0.length c0] rfl (by (try simp only [List.map_toArray, List.map_cons, List.map_nil]); first | done | rfl | (simp only [List.length_drop, List.length_take]; rfl)) ?_; (with_reducible refine (impl_purseOf.calls k _ _ l0 t536 t539 _ ?side1 ?side2 A5.out).mono ?_); (case side1 => repeat (first | exact (Kd.C_below HR0.out HB.out) | (with_reducible refine Kd.C_alloc ?_ _) | (with_reducible refine Kd.C_drewN ?_ _) | (with_reducible refine Kd.C_drew ?_))); (case side2 => exact HC0.out); rintro e w11 ⟨v537, v540, rfl, ho0, ho1, hb⟩; refine ⟨_, rfl, ?_⟩; have n0_ := Aside0.mk (Kd.R_mono (Kd.R_told (Kd.R_told (Kd.R_old (by (with_reducible repeat (first | apply Kd.R_alloc | apply Kd.R_drewN | apply Kd.R_drew)); exact HO534.out) hb) (Kd.R_base ho0)) (Kd.R_base ho1)) (fun _ h_ => h_.1)); have n1_ := Aside0.mk (Kd.R_lower (Kd.R_new' ho0 (Kd.R_lt (by (with_reducible repeat (first | apply Kd.R_alloc | apply Kd.R_drewN | apply Kd.R_drew)); exact HO534.out))) (below_size (by repeat (first | (with_reducible first | exact HB.out | apply below_alloc | apply pw_below_drewN | apply below_drew1) | exact HB.out)))); have n2_ := Aside0.mk (Kd.R_lower (Kd.R_new' ho1 (Kd.R_lt (by (with_reducible repeat (first | apply Kd.R_alloc | apply Kd.R_drewN | apply Kd.R_drew)); exact HO534.out))) (below_size (by repeat (first | (with_reducible first | exact HB.out | apply below_alloc | apply pw_below_drewN | apply below_drew1) | exact HB.out)))); have n3_ := Aside0.mk (below_step (by repeat (first | (with_reducible first | exact HB.out | apply below_alloc | apply pw_below_drewN | apply below_drew1) | exact HB.out)) hb); clear HO534; clear HB; have HO534 := n0_; have HO538 := n1_; have HO541 := n2_; have HB := n3_; clear n0_ n1_ n2_ n3_; (try clear hb); (try clear hb2); (try clear hk); (try clear hi); (try clear ho0); (try clear ho1)) | ((with_reducible refine gate_dst (N := 8) rfl ?_); refine box_event ?hg (N := 8) ?hd (cs := #[.slice none 0 0, .slice none 0 0]) (t := 60) ?hr ?_; (case hd => rfl); (case hg => rfl); (case hr => first | (go_simp; done) | (go_simp; rfl)); intro gb542 hg w12 hbox hb; have n0_ := Aside0.mk (Kd.R_below (by (with_reducible repeat (first | apply Kd.R_alloc | apply Kd.R_drewN | apply Kd.R_drew)); exact HO534.out) hb); have n1_ := Aside0.mk (Kd.R_below (by (with_reducible repeat (first | apply Kd.R_alloc | apply Kd.R_drewN | apply Kd.R_drew)); exact HO538.out) hb); have n2_ := Aside0.mk (Kd.R_below (by (with_reducible repeat (first | apply Kd.R_alloc | apply Kd.R_drewN | apply Kd.R_drew)); exact HO541.out) hb); have n3_ := Aside0.mk (below_step (by repeat (first | (with_reducible first | exact HB.out | apply below_alloc | apply pw_below_drewN | apply below_drew1) | exact HB.out)) hb); have n4_ := Aside0.mk (hbox); have n5_ := Aside0.mk ((by rw [hg]; exact (below_size (by repeat (first | (with_reducible first | exact HB.out | apply below_alloc | apply pw_below_drewN | apply below_drew1) | exact HB.out))) : w.heap.size ≤ gb542)); have n6_ := Aside0.mk ((by rw [hg]; exact (below_size (by repeat (first | (with_reducible first | exact HB.out | apply below_alloc | apply pw_below_drewN | apply below_drew1) | exact HB.out))) : w.heap.size ≤ gb542)); clear HO534; clear HO538; clear HO541; clear HB; have HO534 := n0_; have HO538 := n1_; have HO541 := n2_; have HB := n3_; have BK542 := n4_; have GW542 := n5_; have GE542 := n6_; clear n0_ n1_ n2_ n3_ n4_ n5_ n6_; clear hb hbox hg; obtain ⟨Ao13, co13, eo13⟩ := Kd.R_slice HO538.out; subst eo13; have hcz14_0 : w12.cell? ⟨gb542, 0, none⟩ = some (.slice none 0 0) := (blk_cell BK542.out 0).trans rfl; have hcz14_1 : w12.cell? ⟨gb542, 1, none⟩ = some (.slice none 0 0) := (blk_cell BK542.out 1).trans rfl; have hfz14_0 := blk_frozen BK542.out 0; have hfz14_1 := blk_frozen BK542.out 1; obtain ⟨Ao15, co15, eo15⟩ := Kd.R_slice HO541.out; subst eo15) | ((with_reducible refine gate_callee (f := 60) rfl ?_); refine goesL_ (some 23) rfl rfl Try.func60 (by kernel_rfl) rfl #[.agg #[.slice Ao13 t536.length co13, .slice Ao15 t539.length co15], .int .i64 (wrap64 (a1 + 500))] rfl (by (try simp only [List.map_toArray, List.map_cons, List.map_nil]); first | done | rfl | (simp only [List.length_drop, List.length_take]; rfl)) ?_; (with_reducible refine (impl_purse_table.calls k _ _ t536 _ _ t539 (wrap64 (a1 + 500)) t543 _ ?side1 ?side2 ?side3 ?side4 A6.out).mono ?_); (case side1 => refine (Kd.R_reads' (e := 2) (base := w.heap.size) (ok := fun k_ => (some k_ ≠ (.slice Ao15 t539.length co15 : Value).ownBlock ∧ some k_ ≠ (.slice Ao9 y532.length co9 : Value).ownBlock)) (n := t536.length) (c := co13) ?_).2.2; exact (by (with_reducible repeat (first | apply Kd.R_alloc | apply Kd.R_drewN | apply Kd.R_drew)); exact (Kd.R_mono (Kd.R_far (p := ⟨gb542, 1, none⟩) (Kd.R_far (p := ⟨gb542, 0, none⟩) (Kd.R_types HO538.out BK542.out (by decide)) (fun _ hk => hk.2) (.slice Ao13 t536.length co13)) (fun _ hk => hk.2) (.slice Ao15 t539.length co15)) (fun _ h_ => h_.1)))); (case side2 => exact (Kd.R_reads' HO538.out).2.1); (case side3 => refine (Kd.R_reads' (e := 2) (base := w.heap.size) (ok := fun k_ => (some k_ ≠ (.slice Ao13 t536.length co13 : Value).ownBlock ∧ some k_ ≠ (.slice Ao9 y532.length co9 : Value).ownBlock)) (n := t539.length) (c := co15) ?_).2.2; exact (by (with_reducible repeat (first | apply Kd.R_alloc | apply Kd.R_drewN | apply Kd.R_drew)); exact (Kd.R_mono (Kd.R_far (p := ⟨gb542, 1, none⟩) (Kd.R_far (p := ⟨gb542, 0, none⟩) (Kd.R_types HO541.out BK542.out (by decide)) (fun _ hk => hk.2) (.slice Ao13 t536.length co13)) (fun _ hk => hk.2) (.slice Ao15 t539.length co15)) (fun _ h_ => h_.1)))); (case side4 => exact (Kd.R_reads' HO541.out).2.1); rintro e w16 ⟨v544, rfl, ho0, hb⟩; refine ⟨_, rfl, ?_⟩; have n0_ := Aside0.mk (Kd.R_below (by (with_reducible repeat (first | apply Kd.R_alloc | apply Kd.R_drewN | apply Kd.R_drew)); exact (Kd.R_mono (Kd.R_far (p := ⟨gb542, 1, none⟩) (Kd.R_far (p := ⟨gb542, 0, none⟩) (Kd.R_types HO534.out BK542.out (by decide)) (fun _ hk => hk.2) (.slice Ao13 t536.length co13)) (fun _ hk => hk.2) (.slice Ao15 t539.length co15)) (fun _ h_ => h_.1))) hb); have n1_ := Aside0.mk (Kd.R_below (by (with_reducible repeat (first | apply Kd.R_alloc | apply Kd.R_drewN | apply Kd.R_drew)); exact (Kd.R_mono (Kd.R_far (p := ⟨gb542, 1, none⟩) (Kd.R_far (p := ⟨gb542, 0, none⟩) (Kd.R_types HO538.out BK542.out (by decide)) (fun _ hk => hk.2) (.slice Ao13 t536.length co13)) (fun _ hk => hk.2) (.slice Ao15 t539.length co15)) (fun _ h_ => h_.1))) hb); have n2_ := Aside0.mk (Kd.R_below (by (with_reducible repeat (first | apply Kd.R_alloc | apply Kd.R_drewN | apply Kd.R_drew)); exact (Kd.R_mono (Kd.R_far (p := ⟨gb542, 1, none⟩) (Kd.R_far (p := ⟨gb542, 0, none⟩) (Kd.R_types HO541.out BK542.out (by decide)) (fun _ hk => hk.2) (.slice Ao13 t536.length co13)) (fun _ hk => hk.2) (.slice Ao15 t539.length co15)) (fun _ h_ => h_.1))) hb); have n3_ := Aside0.mk (Kd.S_lower ho0 (below_size (by repeat (first | (with_reducible first | exact HB.out | apply below_alloc | apply pw_below_drewN | apply below_drew1 | refine below_set ?_ GE542.out) | exact HB.out)))); have n4_ := Aside0.mk (blk_below (g := gb542) (o := .cells #[.slice Ao13 t536.length co13, .slice Ao15 t539.length co15] 60 (0, 0)) (by (with_reducible repeat (first | refine blk_drewN ?_ _ | refine blk_drew ?_ | refine blk_alloc ?_ _)); refine blk_put (cs := #[.slice Ao13 t536.length co13, .slice none 0 0]) ?_ 1 _ rfl; (with_reducible repeat (first | refine blk_drewN ?_ _ | refine blk_drew ?_ | refine blk_alloc ?_ _)); refine blk_put (cs := #[.slice none 0 0, .slice none 0 0]) ?_ 0 _ rfl; (with_reducible repeat (first | refine blk_drewN ?_ _ | refine blk_drew ?_ | refine blk_alloc ?_ _)); exact BK542.out) hb); have n5_ := Aside0.mk (below_step (by repeat (first | (with_reducible first | exact HB.out | apply below_alloc | apply pw_below_drewN | apply below_drew1 | refine below_set ?_ GE542.out) | exact HB.out)) hb); clear HO534; clear HO538; clear HO541; clear BK542; clear HB; have HO534 := n0_; have HO538 := n1_; have HO541 := n2_; have HO545 := n3_; have BK542 := n4_; have HB := n5_; clear n0_ n1_ n2_ n3_ n4_ n5_; (try clear hb); (try clear hb2); (try clear hk); (try clear hi); (try clear ho0)))
  go_loopg [10] k (fun kq v10 w' => ∃ (x10_1 : Int), v10 = .int .i64 x10_1 ∧ Aside0 (impl_OverFrom.l0 kq a1 t543 x10_1 t536 t539 = some (r1, r2, r3)) ∧ Aside0 (kq ≤ k) ∧ Aside0 (Kd.S (Kd.slice 77 k77) 78 w' w.heap.size (fun _ => True) v544 t543) ∧ Aside0 (Kd.R (Kd.int .i64) 2 w' w.heap.size (fun k_ => some k_ ≠ ((.slice Ao15 t539.length co15) : Value).ownBlock) (.slice Ao13 t536.length co13) t536) ∧ Aside0 (Kd.R (Kd.int .i64) 2 w' w.heap.size (fun k_ => some k_ ≠ ((.slice Ao13 t536.length co13) : Value).ownBlock) (.slice Ao15 t539.length co15) t539) ∧ Aside0 (w'.heap[gb542]? = some (.cells #[(.slice Ao13 t536.length co13), (.slice Ao15 t539.length co15)] 60 (0, 0))) ∧ Aside0 (Below w.heap.size w w'))
  case atStart => exact ⟨(a1), (by first | rfl | (simp; done) | (simp [*]; done)), H', ⟨Nat.le_refl _⟩, ⟨by (with_reducible repeat (first | apply Kd.S_alloc | apply Kd.S_drewN | apply Kd.S_drew)); exact HO545.out⟩, ⟨by (with_reducible repeat (first | apply Kd.R_alloc | apply Kd.R_drewN | apply Kd.R_drew)); exact Kd.R_mono HO538.out (fun _ hk => hk.1)⟩, ⟨by (with_reducible repeat (first | apply Kd.R_alloc | apply Kd.R_drewN | apply Kd.R_drew)); exact Kd.R_mono HO541.out (fun _ hk => hk.1)⟩, ⟨by (with_reducible repeat (first | refine blk_drewN ?_ _ | refine blk_drew ?_ | refine blk_alloc ?_ _)); exact BK542.out⟩, ⟨by repeat (first | (with_reducible first | exact HB.out | apply below_alloc | apply pw_below_drewN | apply below_drew1 | refine below_set ?_ GE542.out) | exact HB.out)⟩⟩
  case round =>
    clear H'
    try clear p2
    try clear c3
    try clear c4
    try clear c4b0
    try clear c4b1
    try clear c5
    try clear c6
    try clear p6
    try clear hcz14_0
    try clear hcz14_1
    try clear hfz14_0
    try clear hfz14_1
    obtain ⟨x10_1, rfl, HA, HK1, HO_9, HO_543000, HO_543001, BK542, HB⟩ := hrel
    cases gk with
    | zero => exact absurd HA.out (by simp [impl_OverFrom.l0])
    | succ k1 =>
      have H := HA.out
      clear HA
      simp only [impl_OverFrom.l0] at H
      by_cases c17 : x10_1 ≤ (wrap64 (a1 + 500))
      rotate_left
      · rw [if_neg c17] at H
        have c17b0 : decide (x10_1 ≤ (wrap64 (a1 + 500))) = false := decide_eq_false c17
        clear c17
        simp only [Option.some.injEq, Prod.mk.injEq] at H
        obtain ⟨rfl, rfl, rfl⟩ := H
        go_wp2
        go_ret3
        exact ⟨_, by first | rfl | (simp [errW_none, errW_some] <;> rfl) | (simp [*, errW_none, errW_some] <;> rfl), by first | exact Kd.R_nil _ _ _ _ _ | exact Kd.N_nil _ _ _ _ _ | exact Kd.V_nil _ _ _ _ _ | exact Kd.Q_nil _ _ _ _ _ | exact Kd.S_nil _ _ _ _ _, by repeat (first | (with_reducible first | exact HB.out | apply below_alloc | apply pw_below_drewN | apply below_drew1 | refine below_set ?_ GE542.out) | exact HB.out)⟩
      rw [if_pos c17] at H
      have c17b0 : decide (x10_1 ≤ (wrap64 (a1 + 500))) = true := decide_eq_true c17
      clear c17
      by_cases c18 : 0 < (t543.length : Int)
      rotate_left
      · rw [if_neg c18] at H
        exact absurd H (by simp)
      rw [if_pos c18] at H
      have c18b0 : decide (0 < (t543.length : Int)) = true := decide_eq_true c18
      have c18b1 : decide (0 < t543.length) = true := decide_eq_true (by omega)
      clear c18
      by_cases c19 : 0 ≤ x10_1
      rotate_left
      · rw [if_neg c19] at H
        exact absurd H (by simp)
      rw [if_pos c19] at H
      have c19b0 : decide (0 ≤ x10_1) = true := decide_eq_true c19
      clear c19
      by_cases c20 : x10_1 < ((rd_L7 t543 0).length : Int)
      rotate_left
      · rw [if_neg c20] at H
        exact absurd H (by simp)
      rw [if_pos c20] at H
      have c20b0 : decide (x10_1 < ((rd_L7 t543 0).length : Int)) = true := decide_eq_true c20
      clear c20
      by_cases c21 : ((rd_T77 (rd_L7 t543 0) x10_1).f0) > 0
      rotate_left
      · rw [if_neg c21] at H
        have c21b0 : decide (0 < ((rd_T77 (rd_L7 t543 0) x10_1).f0)) = false := decide_eq_false c21
        clear c21
        have H' := Aside0.mk H
        clear H
        obtain ⟨Ao26, co26, eo26⟩ := Kd.S_slice HO_9.out
        subst eo26
        have p546 : 0 ≤ (0 : Int) := (by omega)
        have q546 : 0 < (t543.length : Int) := of_decide_eq_true (by first | (with_reducible assumption) | assumption)
        obtain ⟨ad546, A546_0, c546_0, e546, hx546_0, hl546_0, hi546_0⟩ := at_L7 (Kd.S_reads' HO_9.out).2.2 0 p546 q546
        cases e546
        obtain ⟨ce546, hce546, hMe546, hcc546⟩ := Kd.S_get HO_9.out [] 0 p546 (by first | exact q546 | exact of_decide_eq_true (by first | (with_reducible assumption) | assumption) | (have e_ := (Kd.S_reads' HO_9.out).1; omega))
        obtain ⟨ve546_0, rfl, ge546_0⟩ := hMe546
        have hv546_0 := hcc546 0 _ rfl
        rw [Nat.add_zero, show ((Kd.slice 77 k77)).sz = 1 from rfl, Nat.mul_one] at hv546_0
        replace hv546_0 := Option.some.inj (hv546_0.symm.trans hx546_0)
        rw [hv546_0] at ge546_0
        have HL546_0 := Aside0.mk (show Kd.R k77 77 _ _ _ _ (rd_L7 t543 0) from ge546_0)
        clear hv546_0 ge546_0
        clear hcc546 hce546
        have qi546 : (0 < t543.length) = True := eq_true (by omega)
        (try rw [show ((0 : Int)).toNat = 0 from rfl] at hx546_0)
        (try rw [Addr.add_zero'] at hx546_0)
        have HR546_0 := Aside0.mk hi546_0
        have HC546_0 := Aside0.mk hl546_0
        clear hi546_0 hl546_0
        replace p546 := eq_true p546
        replace q546 := eq_true q546
        have p547 : 0 ≤ (x10_1 : Int) := of_decide_eq_true (by first | (with_reducible assumption) | assumption)
        have q547 : x10_1 < ((rd_L7 t543 0).length : Int) := of_decide_eq_true (by first | (with_reducible assumption) | assumption)
        obtain ⟨ad547, e547, hx547_0, hx547_1⟩ := at_T77 (by repeat (first | (with_reducible exact HR546_0.out) | (with_reducible refine Kd.C_alloc ?_ _) | (with_reducible refine Kd.C_drewN ?_ _) | (with_reducible refine Kd.C_drew ?_) | exact HR546_0.out)) x10_1 p547 q547
        cases e547
        replace p547 := eq_true p547
        replace q547 := eq_true q547
        go_wp2
        go_roundg k1
        case measure => have := HK1.out; omega
        case rel => exact ⟨(wrap64 (x10_1 + 1)), (by first | rfl | (simp; done) | (simp [*]; done)), H', ⟨by have := HK1.out; omega⟩, ⟨by (with_reducible repeat (first | apply Kd.S_alloc | apply Kd.S_drewN | apply Kd.S_drew)); exact HO_9.out⟩, ⟨by (with_reducible repeat (first | apply Kd.R_alloc | apply Kd.R_drewN | apply Kd.R_drew)); exact HO_543000.out⟩, ⟨by (with_reducible repeat (first | apply Kd.R_alloc | apply Kd.R_drewN | apply Kd.R_drew)); exact HO_543001.out⟩, ⟨by (with_reducible repeat (first | refine blk_drewN ?_ _ | refine blk_drew ?_ | refine blk_alloc ?_ _)); exact BK542.out⟩, ⟨by repeat (first | (with_reducible first | exact HB.out | apply below_alloc | apply pw_below_drewN | apply below_drew1 | refine below_set ?_ GE542.out) | exact HB.out)⟩⟩
      rw [if_pos c21] at H
      have c21b0 : decide (0 < ((rd_T77 (rd_L7 t543 0) x10_1).f0)) = true := decide_eq_true c21
      clear c21
      replace H := Option.bind_eq_some_iff.mp H
      obtain ⟨t548, A220, H⟩ := H
      replace H : (some (t548, x10_1, 0)) = some (r1, r2, r3) := H
      have A22 := Aside0.mk A220
      clear A220
      simp only [Option.some.injEq, Prod.mk.injEq] at H
      obtain ⟨rfl, rfl, rfl⟩ := H
      obtain ⟨Ao23, co23, eo23⟩ := Kd.S_slice HO_9.out
      subst eo23
      have p546 : 0 ≤ (0 : Int) := (by omega)
      have q546 : 0 < (t543.length : Int) := of_decide_eq_true (by first | (with_reducible assumption) | assumption)
      obtain ⟨ad546, A546_0, c546_0, e546, hx546_0, hl546_0, hi546_0⟩ := at_L7 (Kd.S_reads' HO_9.out).2.2 0 p546 q546
      cases e546
      obtain ⟨ce546, hce546, hMe546, hcc546⟩ := Kd.S_get HO_9.out [] 0 p546 (by first | exact q546 | exact of_decide_eq_true (by first | (with_reducible assumption) | assumption) | (have e_ := (Kd.S_reads' HO_9.out).1; omega))
      obtain ⟨ve546_0, rfl, ge546_0⟩ := hMe546
      have hv546_0 := hcc546 0 _ rfl
      rw [Nat.add_zero, show ((Kd.slice 77 k77)).sz = 1 from rfl, Nat.mul_one] at hv546_0
      replace hv546_0 := Option.some.inj (hv546_0.symm.trans hx546_0)
      rw [hv546_0] at ge546_0
      have HL546_0 := Aside0.mk (show Kd.R k77 77 _ _ _ _ (rd_L7 t543 0) from ge546_0)
      clear hv546_0 ge546_0
      clear hcc546 hce546
      have qi546 : (0 < t543.length) = True := eq_true (by omega)
      (try rw [show ((0 : Int)).toNat = 0 from rfl] at hx546_0)
      (try rw [Addr.add_zero'] at hx546_0)
      have HR546_0 := Aside0.mk hi546_0
      have HC546_0 := Aside0.mk hl546_0
      clear hi546_0 hl546_0
      replace p546 := eq_true p546
      replace q546 := eq_true q546
      have p547 : 0 ≤ (x10_1 : Int) := of_decide_eq_true (by first | (with_reducible assumption) | assumption)
      have q547 : x10_1 < ((rd_L7 t543 0).length : Int) := of_decide_eq_true (by first | (with_reducible assumption) | assumption)
      obtain ⟨ad547, e547, hx547_0, hx547_1⟩ := at_T77 (by repeat (first | (with_reducible exact HR546_0.out) | (with_reducible refine Kd.C_alloc ?_ _) | (with_reducible refine Kd.C_drewN ?_ _) | (with_reducible refine Kd.C_drew ?_) | exact HR546_0.out)) x10_1 p547 q547
      cases e547
      replace p547 := eq_true p547
      replace q547 := eq_true q547
      have hcz24_0 : wr.cell? ⟨gb542, 0, none⟩ = some (.slice Ao13 t536.length co13) := (blk_cell BK542.out 0).trans rfl
      have hcz24_1 : wr.cell? ⟨gb542, 1, none⟩ = some (.slice Ao15 t539.length co15) := (blk_cell BK542.out 1).trans rfl
      have hfz24_0 := blk_frozen BK542.out 0
      have hfz24_1 := blk_frozen BK542.out 1
      go_wp2_with (first | ((with_reducible refine gate_callee (f := 61) rfl ?_); refine goesL_ (some 42) rfl rfl Try.func61 (by kernel_rfl) rfl #[.agg #[.slice Ao13 t536.length co13, .slice Ao15 t539.length co15], .slice (some ad546) t543.length co23, .int .i64 x10_1] rfl (by (try simp only [List.map_toArray, List.map_cons, List.map_nil]); first | done | rfl | (simp only [List.length_drop, List.length_take]; rfl)) ?_; (with_reducible refine (impl_purse_counts.calls k1 _ _ t536 _ _ t539 _ _ t543 x10_1 t548 _ ?side1 ?side2 ?side3 ?side4 ?side5 ?side6 A22.out).mono ?_); (case side1 => repeat (first | exact (Kd.R_reads' HO_543000.out).2.2 | (with_reducible refine Kd.C_alloc ?_ _) | (with_reducible refine Kd.C_drewN ?_ _) | (with_reducible refine Kd.C_drew ?_))); (case side2 => exact (Kd.R_reads' HO_543000.out).2.1); (case side3 => repeat (first | exact (Kd.R_reads' HO_543001.out).2.2 | (with_reducible refine Kd.C_alloc ?_ _) | (with_reducible refine Kd.C_drewN ?_ _) | (with_reducible refine Kd.C_drew ?_))); (case side4 => exact (Kd.R_reads' HO_543001.out).2.1); (case side5 => repeat (first | exact (Kd.S_reads' HO_9.out).2.2 | (with_reducible refine Kd.C_alloc ?_ _) | (with_reducible refine Kd.C_drewN ?_ _) | (with_reducible refine Kd.C_drew ?_))); (case side6 => exact (Kd.S_reads' HO_9.out).2.1); rintro e w25 ⟨v549, rfl, ho0, hb⟩; refine ⟨_, rfl, ?_⟩; have n0_ := Aside0.mk (Kd.S_below (by (with_reducible repeat (first | apply Kd.S_alloc | apply Kd.S_drewN | apply Kd.S_drew)); exact HO_9.out) hb); have n1_ := Aside0.mk (Kd.R_elder' (by (with_reducible repeat (first | apply Kd.R_alloc | apply Kd.R_drewN | apply Kd.R_drew)); exact HO_543000.out) (Kd.R_base ho0) hb); have n2_ := Aside0.mk (Kd.R_elder' (by (with_reducible repeat (first | apply Kd.R_alloc | apply Kd.R_drewN | apply Kd.R_drew)); exact HO_543001.out) (Kd.R_base ho0) hb); have n3_ := Aside0.mk (Kd.R_below (by (with_reducible repeat (first | apply Kd.R_alloc | apply Kd.R_drewN | apply Kd.R_drew)); exact HL546_0.out) hb); have n4_ := Aside0.mk (Kd.R_lower (Kd.R_new' (Kd.R_new' ho0 (Kd.R_lt (by (with_reducible repeat (first | apply Kd.R_alloc | apply Kd.R_drewN | apply Kd.R_drew)); exact HO_543000.out))) (Kd.R_lt (by (with_reducible repeat (first | apply Kd.R_alloc | apply Kd.R_drewN | apply Kd.R_drew)); exact HO_543001.out))) (below_size (by repeat (first | (with_reducible first | exact HB.out | apply below_alloc | apply pw_below_drewN | apply below_drew1 | refine below_set ?_ GE542.out) | exact HB.out)))); have n5_ := Aside0.mk (blk_below (g := gb542) (o := .cells #[.slice Ao13 t536.length co13, .slice Ao15 t539.length co15] 60 (0, 0)) (by (with_reducible repeat (first | refine blk_drewN ?_ _ | refine blk_drew ?_ | refine blk_alloc ?_ _)); exact BK542.out) hb); have n6_ := Aside0.mk (Kd.C_below (by repeat (first | (with_reducible exact HR546_0.out) | (with_reducible refine Kd.C_alloc ?_ _) | (with_reducible refine Kd.C_drewN ?_ _) | (with_reducible refine Kd.C_drew ?_) | exact HR546_0.out)) hb); have n7_ := Aside0.mk (below_step (by repeat (first | (with_reducible first | exact HB.out | apply below_alloc | apply pw_below_drewN | apply below_drew1 | refine below_set ?_ GE542.out) | exact HB.out)) hb); clear HO_9; clear HO_543000; clear HO_543001; clear HL546_0; clear BK542; clear HR546_0; clear HB; have HO_9 := n0_; have HO_543000 := n1_; have HO_543001 := n2_; have HL546_0 := n3_; have HO550 := n4_; have BK542 := n5_; have HR546_0 := n6_; have HB := n7_; clear n0_ n1_ n2_ n3_ n4_ n5_ n6_ n7_; (try clear hb); (try clear hb2); (try clear hk); (try clear hi); (try clear ho0)))
      go_ret3
      exact ⟨_, by first | rfl | (simp [errW_none, errW_some] <;> rfl) | (simp [*, errW_none, errW_some] <;> rfl), by (with_reducible repeat (first | apply Kd.R_alloc | apply Kd.R_drewN | apply Kd.R_drew)); exact Kd.R_mono HO550.out (fun _ hk => trivial), by repeat (first | (with_reducible first | exact HB.out | apply below_alloc | apply pw_below_drewN | apply below_drew1 | refine below_set ?_ GE542.out) | exact HB.out)⟩
end Go.Proofs.Ytnhcdfikjfjkoaa.P

namespace Go.Proofs.Ytnhcdfikjfjkoaa.P
open Go.RowKit Go.Proofs.YtnhcdfikjfjkoaaW.PrintWords Go.Proofs.YtnhcdfikjfjkoaaW.PrintLast Go.Proofs.YtnhcdfikjfjkoaaW.PrintMore
attribute [local go_sem] max2_int min2_int max_two min_two max_three min_three max_four min_four   -- for this text's walks alone
set_option linter.unusedVariables false
set_option linter.unusedSimpArgs false

/-! ### laws_FnExactOverFrom: function 8 -/
mutual
def laws_FnExactOverFrom.j0 : Nat → List (S58) → Int → List Int → Int → Int → List (S56) → List Int → Int → Int → Bool → Option (Bool)
  | 0, _, _, _, _, _, _, _, _, _, _ => none
  | k + 1, x0, x1, x6, x7, x8, x9, x10, x11, x12, x54 => if x54 = true then (some false) else ((laws_toStampS.f k x0).bind fun t569 => ((laws_eqStampS.f k x9 t569).bind fun t572 => (if t572 = true then ((laws_markStampS.f k x9 1).bind fun bt573 => (if bt573.1 < 0 then (laws_FnExactOverFrom.j1 k x0 x1 x6 x7 x8 x10 true) else ((laws_eqInt64S.f k x10 x6).bind fun t575 => (if t575 = true then (if x11 = x7 then (laws_FnExactOverFrom.j1 k x0 x1 x6 x7 x8 x10 (x12 != x8)) else (laws_FnExactOverFrom.j1 k x0 x1 x6 x7 x8 x10 true)) else (laws_FnExactOverFrom.j1 k x0 x1 x6 x7 x8 x10 true))))) else (some false))))
def laws_FnExactOverFrom.j1 : Nat → List (S58) → Int → List Int → Int → Int → List Int → Bool → Option (Bool)
  | 0, _, _, _, _, _, _, _ => none
  | k + 1, x0, x1, x6, x7, x8, x10, x80 => if x80 = true then (some false) else ((laws_markInt64S.f k x10 1).bind fun bt576 => ((laws_heldInt64S.f k bt576.2 1).bind fun t578 => (if t578 < 0 then (some false) else (if t578 = bt576.1 then ((laws_toStampS.f k x0).bind fun t579 => ((impl_OverFrom.f k t579 x1).bind fun bt582 => ((laws_eqInt64S.f k bt582.1 x6).bind fun t587 => (if t587 = true then (if bt582.2.1 = x7 then (laws_FnExactOverFrom.j2 k bt576.2 bt576.1 (bt582.2.2 != x8)) else (laws_FnExactOverFrom.j2 k bt576.2 bt576.1 true)) else (laws_FnExactOverFrom.j2 k bt576.2 bt576.1 true))))) else (some false)))))
def laws_FnExactOverFrom.j2 : Nat → List Int → Int → Bool → Option (Bool)
  | 0, _, _, _ => none
  | k + 1, x10, x14, x113 => if x113 = true then (some false) else ((laws_heldInt64S.f k x10 1).bind fun t588 => (if t588 < 0 then (some false) else (if t588 = x14 then (some true) else (some false))))
end
def laws_FnExactOverFrom.f (k : Nat) (l0 : List (S58)) (a1 : Int) : Option (Bool) := (laws_szStampS.f l0 1048576).bind fun t551 => (if t551 < 0 then (some true) else ((laws_toStampS.f k l0).bind fun t552 => ((spec_OverFrom.f k t552 a1).bind fun bt555 => ((laws_toStampS.f k l0).bind fun t560 => ((impl_OverFrom.f k t560 a1).bind fun bt563 => ((laws_eqInt64S.f k bt563.1 bt555.1).bind fun t568 => (if t568 = true then (if bt563.2.1 = bt555.2.1 then (laws_FnExactOverFrom.j0 k l0 a1 bt555.1 bt555.2.1 bt555.2.2 t560 bt563.1 bt563.2.1 bt563.2.2 (bt563.2.2 != bt555.2.2)) else (laws_FnExactOverFrom.j0 k l0 a1 bt555.1 bt555.2.1 bt555.2.2 t560 bt563.1 bt563.2.1 bt563.2.2 true)) else (laws_FnExactOverFrom.j0 k l0 a1 bt555.1 bt555.2.1 bt555.2.2 t560 bt563.1 bt563.2.1 bt563.2.2 true))))))))
theorem laws_FnExactOverFrom.mono_l : ∀ k, (∀ y0 y1 y2 y3 y4 y5 y6 y7 y8 y9, LeO (laws_FnExactOverFrom.j0 k y0 y1 y2 y3 y4 y5 y6 y7 y8 y9) (laws_FnExactOverFrom.j0 (k + 1) y0 y1 y2 y3 y4 y5 y6 y7 y8 y9)) ∧ (∀ y0 y1 y2 y3 y4 y5 y6, LeO (laws_FnExactOverFrom.j1 k y0 y1 y2 y3 y4 y5 y6) (laws_FnExactOverFrom.j1 (k + 1) y0 y1 y2 y3 y4 y5 y6)) ∧ (∀ y0 y1 y2, LeO (laws_FnExactOverFrom.j2 k y0 y1 y2) (laws_FnExactOverFrom.j2 (k + 1) y0 y1 y2))
  | 0 => ⟨fun _ _ _ _ _ _ _ _ _ _ r h => by simp [laws_FnExactOverFrom.j0] at h, fun _ _ _ _ _ _ _ r h => by simp [laws_FnExactOverFrom.j1] at h, fun _ _ _ r h => by simp [laws_FnExactOverFrom.j2] at h⟩
  | k + 1 => by
    obtain ⟨ih0, ih1, ih2⟩ := laws_FnExactOverFrom.mono_l k
    refine ⟨?_, ?_, ?_⟩
    · intro y0 y1 y2 y3 y4 y5 y6 y7 y8 y9
      unfold laws_FnExactOverFrom.j0
      repeat' first
      | (with_reducible exact ih0 _ _ _ _ _ _ _ _ _ _)
      | (with_reducible exact ih1 _ _ _ _ _ _ _)
      | (with_reducible exact ih2 _ _ _)
      | (with_reducible exact impl_OverFrom.mono _ _ _)
      | (with_reducible exact laws_eqInt64S.mono _ _ _)
      | (with_reducible exact laws_eqStampS.mono _ _ _)
      | (with_reducible exact laws_heldInt64S.mono _ _ _)
      | (with_reducible exact laws_markInt64S.mono _ _ _)
      | (with_reducible exact laws_markStampS.mono _ _ _)
      | (with_reducible exact laws_toStampS.mono _ _)
      | (with_reducible exact spec_OverFrom.mono _ _ _)
      | (with_reducible exact LeO.refl _)
      | (with_reducible exact LeO.none _)
      | (with_reducible refine LeO.ite ?_ ?_)
      | (with_reducible refine LeO.bind ?_ (fun _ => ?_))
      | exact ih0 _ _ _ _ _ _ _ _ _ _
      | exact ih1 _ _ _ _ _ _ _
      | exact ih2 _ _ _
      | exact impl_OverFrom.mono _ _ _
      | exact laws_eqInt64S.mono _ _ _
      | exact laws_eqStampS.mono _ _ _
      | exact laws_heldInt64S.mono _ _ _
      | exact laws_markInt64S.mono _ _ _
      | exact laws_markStampS.mono _ _ _
      | exact laws_toStampS.mono _ _
      | exact spec_OverFrom.mono _ _ _
      | exact LeO.none _
      | refine LeO.ite ?_ ?_
      | refine LeO.bind ?_ (fun _ => ?_)
    · intro y0 y1 y2 y3 y4 y5 y6
      unfold laws_FnExactOverFrom.j1
      repeat' first
      | (with_reducible exact ih0 _ _ _ _ _ _ _ _ _ _)
      | (with_reducible exact ih1 _ _ _ _ _ _ _)
      | (with_reducible exact ih2 _ _ _)
      | (with_reducible exact impl_OverFrom.mono _ _ _)
      | (with_reducible exact laws_eqInt64S.mono _ _ _)
      | (with_reducible exact laws_eqStampS.mono _ _ _)
      | (with_reducible exact laws_heldInt64S.mono _ _ _)
      | (with_reducible exact laws_markInt64S.mono _ _ _)
      | (with_reducible exact laws_markStampS.mono _ _ _)
      | (with_reducible exact laws_toStampS.mono _ _)
      | (with_reducible exact spec_OverFrom.mono _ _ _)
      | (with_reducible exact LeO.refl _)
      | (with_reducible exact LeO.none _)
      | (with_reducible refine LeO.ite ?_ ?_)
      | (with_reducible refine LeO.bind ?_ (fun _ => ?_))
      | exact ih0 _ _ _ _ _ _ _ _ _ _
      | exact ih1 _ _ _ _ _ _ _
      | exact ih2 _ _ _
      | exact impl_OverFrom.mono _ _ _
      | exact laws_eqInt64S.mono _ _ _
      | exact laws_eqStampS.mono _ _ _
      | exact laws_heldInt64S.mono _ _ _
      | exact laws_markInt64S.mono _ _ _
      | exact laws_markStampS.mono _ _ _
      | exact laws_toStampS.mono _ _
      | exact spec_OverFrom.mono _ _ _
      | exact LeO.none _
      | refine LeO.ite ?_ ?_
      | refine LeO.bind ?_ (fun _ => ?_)
    · intro y0 y1 y2
      unfold laws_FnExactOverFrom.j2
      repeat' first
      | (with_reducible exact ih0 _ _ _ _ _ _ _ _ _ _)
      | (with_reducible exact ih1 _ _ _ _ _ _ _)
      | (with_reducible exact ih2 _ _ _)
      | (with_reducible exact impl_OverFrom.mono _ _ _)
      | (with_reducible exact laws_eqInt64S.mono _ _ _)
      | (with_reducible exact laws_eqStampS.mono _ _ _)
      | (with_reducible exact laws_heldInt64S.mono _ _ _)
      | (with_reducible exact laws_markInt64S.mono _ _ _)
      | (with_reducible exact laws_markStampS.mono _ _ _)
      | (with_reducible exact laws_toStampS.mono _ _)
      | (with_reducible exact spec_OverFrom.mono _ _ _)
      | (with_reducible exact LeO.refl _)
      | (with_reducible exact LeO.none _)
      | (with_reducible refine LeO.ite ?_ ?_)
      | (with_reducible refine LeO.bind ?_ (fun _ => ?_))
      | exact ih0 _ _ _ _ _ _ _ _ _ _
      | exact ih1 _ _ _ _ _ _ _
      | exact ih2 _ _ _
      | exact impl_OverFrom.mono _ _ _
      | exact laws_eqInt64S.mono _ _ _
      | exact laws_eqStampS.mono _ _ _
      | exact laws_heldInt64S.mono _ _ _
      | exact laws_markInt64S.mono _ _ _
      | exact laws_markStampS.mono _ _ _
      | exact laws_toStampS.mono _ _
      | exact spec_OverFrom.mono _ _ _
      | exact LeO.none _
      | refine LeO.ite ?_ ?_
      | refine LeO.bind ?_ (fun _ => ?_)
theorem laws_FnExactOverFrom.mono : ∀ a0 a1 k, LeO (laws_FnExactOverFrom.f k a0 a1) (laws_FnExactOverFrom.f (k + 1) a0 a1) := by
  intro a0 a1 k
  obtain ⟨ih0, ih1, ih2⟩ := laws_FnExactOverFrom.mono_l k
  unfold laws_FnExactOverFrom.f
  repeat' first
      | (with_reducible exact ih0 _ _ _ _ _ _ _ _ _ _)
      | (with_reducible exact ih1 _ _ _ _ _ _ _)
      | (with_reducible exact ih2 _ _ _)
      | (with_reducible exact impl_OverFrom.mono _ _ _)
      | (with_reducible exact laws_eqInt64S.mono _ _ _)
      | (with_reducible exact laws_eqStampS.mono _ _ _)
      | (with_reducible exact laws_heldInt64S.mono _ _ _)
      | (with_reducible exact laws_markInt64S.mono _ _ _)
      | (with_reducible exact laws_markStampS.mono _ _ _)
      | (with_reducible exact laws_toStampS.mono _ _)
      | (with_reducible exact spec_OverFrom.mono _ _ _)
      | (with_reducible exact LeO.refl _)
      | (with_reducible exact LeO.none _)
      | (with_reducible refine LeO.ite ?_ ?_)
      | (with_reducible refine LeO.bind ?_ (fun _ => ?_))
      | exact ih0 _ _ _ _ _ _ _ _ _ _
      | exact ih1 _ _ _ _ _ _ _
      | exact ih2 _ _ _
      | exact impl_OverFrom.mono _ _ _
      | exact laws_eqInt64S.mono _ _ _
      | exact laws_eqStampS.mono _ _ _
      | exact laws_heldInt64S.mono _ _ _
      | exact laws_markInt64S.mono _ _ _
      | exact laws_markStampS.mono _ _ _
      | exact laws_toStampS.mono _ _
      | exact spec_OverFrom.mono _ _ _
      | exact LeO.none _
      | refine LeO.ite ?_ ?_
      | refine LeO.bind ?_ (fun _ => ?_)
set_option maxHeartbeats 8000000 in
set_option maxRecDepth 100000 in
theorem laws_FnExactOverFrom.calls (k : Nat) (A0 : Option Addr) (c0 : Nat) (l0 : List (S58)) (a1 : Int) (r : Bool) (w : World) (hr0 : Kd.C k58 w A0 l0.length l0) (hc0 : l0.length ≤ c0) (h : laws_FnExactOverFrom.f k l0 a1 = some r) (hlaw_ : r = true := by rfl) :
    Calls Try.prog 8 #[.slice A0 l0.length c0, .int .i64 a1] w fun e w' => e = .returned (.bool r) ∧ Below w.heap.size w w' := by
  have HLAW := Aside0.mk hlaw_
  clear hlaw_
  have HR0 := Aside0.mk hr0
  have HC0 := Aside0.mk hc0
  clear hr0 hc0
  have HB := Aside0.mk (Below.refl w.heap.size w)
  have H : ((laws_szStampS.f l0 1048576).bind fun t551 => (if t551 < 0 then (some true) else ((laws_toStampS.f k l0).bind fun t552 => ((spec_OverFrom.f k t552 a1).bind fun bt555 => ((laws_toStampS.f k l0).bind fun t560 => ((impl_OverFrom.f k t560 a1).bind fun bt563 => ((laws_eqInt64S.f k bt563.1 bt555.1).bind fun t568 => (if t568 = true then (if bt563.2.1 = bt555.2.1 then (laws_FnExactOverFrom.j0 k l0 a1 bt555.1 bt555.2.1 bt555.2.2 t560 bt563.1 bt563.2.1 bt563.2.2 (bt563.2.2 != bt555.2.2)) else (laws_FnExactOverFrom.j0 k l0 a1 bt555.1 bt555.2.1 bt555.2.2 t560 bt563.1 bt563.2.1 bt563.2.2 true)) else (laws_FnExactOverFrom.j0 k l0 a1 bt555.1 bt555.2.1 bt555.2.2 t560 bt563.1 bt563.2.1 bt563.2.2 true))))))))) = some r := h
  clear h
  replace H := Option.bind_eq_some_iff.mp H
  obtain ⟨t551, A30, H⟩ := H
  replace H : (if t551 < 0 then (some true) else ((laws_toStampS.f k l0).bind fun t552 => ((spec_OverFrom.f k t552 a1).bind fun bt555 => ((laws_toStampS.f k l0).bind fun t560 => ((impl_OverFrom.f k t560 a1).bind fun bt563 => ((laws_eqInt64S.f k bt563.1 bt555.1).bind fun t568 => (if t568 = true then (if bt563.2.1 = bt555.2.1 then (laws_FnExactOverFrom.j0 k l0 a1 bt555.1 bt555.2.1 bt555.2.2 t560 bt563.1 bt563.2.1 bt563.2.2 (bt563.2.2 != bt555.2.2)) else (laws_FnExactOverFrom.j0 k l0 a1 bt555.1 bt555.2.1 bt555.2.2 t560 bt563.1 bt563.2.1 bt563.2.2 true)) else (laws_FnExactOverFrom.j0 k l0 a1 bt555.1 bt555.2.1 bt555.2.2 t560 bt563.1 bt563.2.1 bt563.2.2 true)))))))) = some r := H
  have A3 := Aside0.mk A30
  clear A30
  by_cases c4 : t551 < 0
  rotate_left
  · rw [if_neg c4] at H
    have c4b0 : decide (t551 < 0) = false := decide_eq_false c4
    clear c4
    replace H := Option.bind_eq_some_iff.mp H
    obtain ⟨t552, A50, H⟩ := H
    replace H : ((spec_OverFrom.f k t552 a1).bind fun bt555 => ((laws_toStampS.f k l0).bind fun t560 => ((impl_OverFrom.f k t560 a1).bind fun bt563 => ((laws_eqInt64S.f k bt563.1 bt555.1).bind fun t568 => (if t568 = true then (if bt563.2.1 = bt555.2.1 then (laws_FnExactOverFrom.j0 k l0 a1 bt555.1 bt555.2.1 bt555.2.2 t560 bt563.1 bt563.2.1 bt563.2.2 (bt563.2.2 != bt555.2.2)) else (laws_FnExactOverFrom.j0 k l0 a1 bt555.1 bt555.2.1 bt555.2.2 t560 bt563.1 bt563.2.1 bt563.2.2 true)) else (laws_FnExactOverFrom.j0 k l0 a1 bt555.1 bt555.2.1 bt555.2.2 t560 bt563.1 bt563.2.1 bt563.2.2 true)))))) = some r := H
    have A5 := Aside0.mk A50
    clear A50
    replace H := Option.bind_eq_some_iff.mp H
    obtain ⟨⟨t555, t556, t557⟩, A60, H⟩ := H
    replace H : ((laws_toStampS.f k l0).bind fun t560 => ((impl_OverFrom.f k t560 a1).bind fun bt563 => ((laws_eqInt64S.f k bt563.1 t555).bind fun t568 => (if t568 = true then (if bt563.2.1 = t556 then (laws_FnExactOverFrom.j0 k l0 a1 t555 t556 t557 t560 bt563.1 bt563.2.1 bt563.2.2 (bt563.2.2 != t557)) else (laws_FnExactOverFrom.j0 k l0 a1 t555 t556 t557 t560 bt563.1 bt563.2.1 bt563.2.2 true)) else (laws_FnExactOverFrom.j0 k l0 a1 t555 t556 t557 t560 bt563.1 bt563.2.1 bt563.2.2 true))))) = some r := H
    have A6 := Aside0.mk A60
    clear A60
    replace H := Option.bind_eq_some_iff.mp H
    obtain ⟨t560, A70, H⟩ := H
    replace H : ((impl_OverFrom.f k t560 a1).bind fun bt563 => ((laws_eqInt64S.f k bt563.1 t555).bind fun t568 => (if t568 = true then (if bt563.2.1 = t556 then (laws_FnExactOverFrom.j0 k l0 a1 t555 t556 t557 t560 bt563.1 bt563.2.1 bt563.2.2 (bt563.2.2 != t557)) else (laws_FnExactOverFrom.j0 k l0 a1 t555 t556 t557 t560 bt563.1 bt563.2.1 bt563.2.2 true)) else (laws_FnExactOverFrom.j0 k l0 a1 t555 t556 t557 t560 bt563.1 bt563.2.1 bt563.2.2 true)))) = some r := H
    have A7 := Aside0.mk A70
    clear A70
    replace H := Option.bind_eq_some_iff.mp H
    obtain ⟨⟨t563, t564, t565⟩, A80, H⟩ := H
    replace H : ((laws_eqInt64S.f k t563 t555).bind fun t568 => (if t568 = true then (if t564 = t556 then (laws_FnExactOverFrom.j0 k l0 a1 t555 t556 t557 t560 t563 t564 t565 (t565 != t557)) else (laws_FnExactOverFrom.j0 k l0 a1 t555 t556 t557 t560 t563 t564 t565 true)) else (laws_FnExactOverFrom.j0 k l0 a1 t555 t556 t557 t560 t563 t564 t565 true))) = some r := H
    have A8 := Aside0.mk A80
    clear A80
    have HC9 := Aside0.mk H
    clear H
    go_enter Try.func8, Try.ntmps8
    go_upto_region 8 with (first | ((with_reducible refine gate_callee (f := 16) rfl ?_); refine goesL_ (some 21) rfl rfl Try.func16 (by kernel_rfl) rfl #[.slice A0 l0.length c0, .int .i64 1048576] rfl (by (try simp only [List.map_toArray, List.map_cons, List.map_nil]); first | done | rfl | (simp only [List.length_drop, List.length_take]; rfl)) ?_; (with_reducible refine (laws_szStampS.calls _ _ l0 1048576 t551 _ ?side1 ?side2 A3.out).mono ?_); (case side1 => repeat (first | exact HR0.out | (with_reducible refine Kd.C_alloc ?_ _) | (with_reducible refine Kd.C_drewN ?_ _) | (with_reducible refine Kd.C_drew ?_))); (case side2 => exact HC0.out); rintro e w' ⟨rfl, ⟨nd, rfl⟩⟩; refine ⟨_, rfl, ?_⟩) | ((with_reducible refine gate_callee (f := 18) rfl ?_); refine goesL_ (some 26) rfl rfl Try.func18 (by kernel_rfl) rfl #[.slice A0 l0.length c0] rfl (by (try simp only [List.map_toArray, List.map_cons, List.map_nil]); first | done | rfl | (simp only [List.length_drop, List.length_take]; rfl)) ?_; (with_reducible refine (laws_toStampS.calls k _ _ l0 t552 _ ?side1 ?side2 A5.out).mono ?_); (case side1 => repeat (first | exact HR0.out | (with_reducible refine Kd.C_alloc ?_ _) | (with_reducible refine Kd.C_drewN ?_ _) | (with_reducible refine Kd.C_drew ?_))); (case side2 => exact HC0.out); rintro e w10 ⟨v553, rfl, ho0, hb⟩; refine ⟨_, rfl, ?_⟩; have n0_ := Aside0.mk (Kd.R_lower ho0 (below_size (by repeat (first | (with_reducible first | exact HB.out | apply below_alloc | apply pw_below_drewN | apply below_drew1) | exact HB.out)))); have n1_ := Aside0.mk (below_step (by repeat (first | (with_reducible first | exact HB.out | apply below_alloc | apply pw_below_drewN | apply below_drew1) | exact HB.out)) hb); clear HB; have HO554 := n0_; have HB := n1_; clear n0_ n1_; (try clear hb); (try clear hb2); (try clear hk); (try clear hi); (try clear ho0); obtain ⟨Ao11, co11, eo11⟩ := Kd.R_slice HO554.out; subst eo11) | ((with_reducible refine gate_callee (f := 30) rfl ?_); refine goesL_ (some 28) rfl rfl Try.func30 (by kernel_rfl) rfl #[.slice Ao11 t552.length co11, .int .i64 a1] rfl (by (try simp only [List.map_toArray, List.map_cons, List.map_nil]); first | done | rfl | (simp only [List.length_drop, List.length_take]; rfl)) ?_; (with_reducible refine (spec_OverFrom.calls k _ _ t552 a1 t555 t556 t557 _ ?side1 ?side2 A6.out).mono ?_); (case side1 => repeat (first | exact (Kd.R_reads' HO554.out).2.2 | (with_reducible refine Kd.C_alloc ?_ _) | (with_reducible refine Kd.C_drewN ?_ _) | (with_reducible refine Kd.C_drew ?_))); (case side2 => exact (Kd.R_reads' HO554.out).2.1); rintro e w12 ⟨v558, rfl, ho0, hb⟩; refine ⟨_, rfl, ?_⟩; have n0_ := Aside0.mk (Kd.R_below (by (with_reducible repeat (first | apply Kd.R_alloc | apply Kd.R_drewN | apply Kd.R_drew)); exact HO554.out) hb); have n1_ := Aside0.mk (Kd.R_lower ho0 (below_size (by repeat (first | (with_reducible first | exact HB.out | apply below_alloc | apply pw_below_drewN | apply below_drew1) | exact HB.out)))); have n2_ := Aside0.mk (below_step (by repeat (first | (with_reducible first | exact HB.out | apply below_alloc | apply pw_below_drewN | apply below_drew1) | exact HB.out)) hb); clear HO554; clear HB; have HO554 := n0_; have HO559 := n1_; have HB := n2_; clear n0_ n1_ n2_; (try clear hb); (try clear hb2); (try clear hk); (try clear hi); (try clear ho0)) | ((with_reducible refine gate_callee (f := 18) rfl ?_); refine goesL_ (some 33) rfl rfl Try.func18 (by kernel_rfl) rfl #[.slice A0 l0.length c0] rfl (by (try simp only [List.map_toArray, List.map_cons, List.map_nil]); first | done | rfl | (simp only [List.length_drop, List.length_take]; rfl)) ?_; (with_reducible refine (laws_toStampS.calls k _ _ l0 t560 _ ?side1 ?side2 A7.out).mono ?_); (case side1 => repeat (first | exact (Kd.C_below HR0.out HB.out) | (with_reducible refine Kd.C_alloc ?_ _) | (with_reducible refine Kd.C_drewN ?_ _) | (with_reducible refine Kd.C_drew ?_))); (case side2 => exact HC0.out); rintro e w13 ⟨v561, rfl, ho0, hb⟩; refine ⟨_, rfl, ?_⟩; have n0_ := Aside0.mk (Kd.R_elder' (by (with_reducible repeat (first | apply Kd.R_alloc | apply Kd.R_drewN | apply Kd.R_drew)); exact HO554.out) (Kd.R_base ho0) hb); have n1_ := Aside0.mk (Kd.R_below (by (with_reducible repeat (first | apply Kd.R_alloc | apply Kd.R_drewN | apply Kd.R_drew)); exact HO559.out) hb); have n2_ := Aside0.mk (Kd.R_lower (Kd.R_new' ho0 (Kd.R_lt (by (with_reducible repeat (first | apply Kd.R_alloc | apply Kd.R_drewN | apply Kd.R_drew)); exact HO554.out))) (below_size (by repeat (first | (with_reducible first | exact HB.out | apply below_alloc | apply pw_below_drewN | apply below_drew1) | exact HB.out)))); have n3_ := Aside0.mk (below_step (by repeat (first | (with_reducible first | exact HB.out | apply below_alloc | apply pw_below_drewN | apply below_drew1) | exact HB.out)) hb); clear HO554; clear HO559; clear HB; have HO554 := n0_; have HO559 := n1_; have HO562 := n2_; have HB := n3_; clear n0_ n1_ n2_ n3_; (try clear hb); (try clear hb2); (try clear hk); (try clear hi); (try clear ho0); obtain ⟨Ao14, co14, eo14⟩ := Kd.R_slice HO562.out; subst eo14) | ((with_reducible refine gate_callee (f := 31) rfl ?_); refine goesL_ (some 37) rfl rfl Try.func31 (by kernel_rfl) rfl #[.slice Ao14 t560.length co14, .int .i64 a1] rfl (by (try simp only [List.map_toArray, List.map_cons, List.map_nil]); first | done | rfl | (simp only [List.length_drop, List.length_take]; rfl)) ?_; (with_reducible refine (impl_OverFrom.calls k _ _ t560 a1 t563 t564 t565 _ ?side1 ?side2 A8.out).mono ?_); (case side1 => repeat (first | exact (Kd.R_reads' HO562.out).2.2 | (with_reducible refine Kd.C_alloc ?_ _) | (with_reducible refine Kd.C_drewN ?_ _) | (with_reducible refine Kd.C_drew ?_))); (case side2 => exact (Kd.R_reads' HO562.out).2.1); rintro e w15 ⟨v566, rfl, ho0, hb⟩; refine ⟨_, rfl, ?_⟩; have n0_ := Aside0.mk (Kd.R_below (by (with_reducible repeat (first | apply Kd.R_alloc | apply Kd.R_drewN | apply Kd.R_drew)); exact HO554.out) hb); have n1_ := Aside0.mk (Kd.R_elder' (by (with_reducible repeat (first | apply Kd.R_alloc | apply Kd.R_drewN | apply Kd.R_drew)); exact HO559.out) (Kd.R_base ho0) hb); have n2_ := Aside0.mk (Kd.R_below (by (with_reducible repeat (first | apply Kd.R_alloc | apply Kd.R_drewN | apply Kd.R_drew)); exact HO562.out) hb); have n3_ := Aside0.mk (Kd.R_lower (Kd.R_new' ho0 (Kd.R_lt (by (with_reducible repeat (first | apply Kd.R_alloc | apply Kd.R_drewN | apply Kd.R_drew)); exact HO559.out))) (below_size (by repeat (first | (with_reducible first | exact HB.out | apply below_alloc | apply pw_below_drewN | apply below_drew1) | exact HB.out)))); have n4_ := Aside0.mk (below_step (by repeat (first | (with_reducible first | exact HB.out | apply below_alloc | apply pw_below_drewN | apply below_drew1) | exact HB.out)) hb); clear HO554; clear HO559; clear HO562; clear HB; have HO554 := n0_; have HO559 := n1_; have HO562 := n2_; have HO567 := n3_; have HB := n4_; clear n0_ n1_ n2_ n3_ n4_; (try clear hb); (try clear hb2); (try clear hk); (try clear hi); (try clear ho0)))
    (try simp only [Act.put, List.setIfInBounds_toArray, List.set_cons_zero, List.set_cons_succ])
    go_cut [54] (fun v54 wc => ∃ (kq : Nat) (x54_8 : Bool), v54 = .bool x54_8 ∧ Aside0 (laws_FnExactOverFrom.j0 kq l0 a1 t555 t556 t557 t560 t563 t564 t565 x54_8 = some r) ∧ Aside0 (kq ≤ k) ∧ Aside0 (Kd.R (Kd.int .i64) 2 wc w.heap.size (fun k_ => some k_ ≠ (v566 : Value).ownBlock) v558 t555) ∧ Aside0 (Kd.R k56 56 wc w.heap.size (fun _ => True) (.slice Ao14 t560.length co14) t560) ∧ Aside0 (Kd.R (Kd.int .i64) 2 wc w.heap.size (fun k_ => some k_ ≠ (v558 : Value).ownBlock) v566 t563) ∧ Aside0 (Below w.heap.size w wc))
    case first =>
      have H := HC9.out
      clear HC9
      replace H := Option.bind_eq_some_iff.mp H
      obtain ⟨t568, A160, H⟩ := H
      replace H : (if t568 = true then (if t564 = t556 then (laws_FnExactOverFrom.j0 k l0 a1 t555 t556 t557 t560 t563 t564 t565 (t565 != t557)) else (laws_FnExactOverFrom.j0 k l0 a1 t555 t556 t557 t560 t563 t564 t565 true)) else (laws_FnExactOverFrom.j0 k l0 a1 t555 t556 t557 t560 t563 t564 t565 true)) = some r := H
      have A16 := Aside0.mk A160
      clear A160
      by_cases c17 : t568 = true
      rotate_left
      · replace c17 := Bool.eq_false_iff.mpr c17
        subst c17
        have H1 : (laws_FnExactOverFrom.j0 k l0 a1 t555 t556 t557 t560 t563 t564 t565 true) = some r := by rw [if_neg (show ¬ (false = true) by decide)] at H; exact H
        clear H
        have H := H1
        clear H1
        have H' := Aside0.mk H
        clear H
        obtain ⟨Ao23, co23, eo23⟩ := Kd.R_slice HO567.out
        subst eo23
        obtain ⟨Ao24, co24, eo24⟩ := Kd.R_slice HO559.out
        subst eo24
        go_wp2_with (first | ((with_reducible refine gate_callee (f := 15) rfl ?_); refine goesL_ (some 43) rfl rfl Try.func15 (by kernel_rfl) rfl #[.slice Ao23 t563.length co23, .slice Ao24 t555.length co24] rfl (by (try simp only [List.map_toArray, List.map_cons, List.map_nil]); first | done | rfl | (simp only [List.length_drop, List.length_take]; rfl)) ?_; (with_reducible refine (laws_eqInt64S.calls k _ _ t563 _ _ t555 false _ ?side1 ?side2 ?side3 ?side4 A16.out).mono ?_); (case side1 => repeat (first | exact (Kd.R_reads' HO567.out).2.2 | (with_reducible refine Kd.C_alloc ?_ _) | (with_reducible refine Kd.C_drewN ?_ _) | (with_reducible refine Kd.C_drew ?_))); (case side2 => exact (Kd.R_reads' HO567.out).2.1); (case side3 => repeat (first | exact (Kd.R_reads' HO559.out).2.2 | (with_reducible refine Kd.C_alloc ?_ _) | (with_reducible refine Kd.C_drewN ?_ _) | (with_reducible refine Kd.C_drew ?_))); (case side4 => exact (Kd.R_reads' HO559.out).2.1); rintro e w' ⟨rfl, ⟨nd, rfl⟩⟩; refine ⟨_, rfl, ?_⟩))
        go_meet
        case rel => exact ⟨_, (true), (by first | rfl | (simp; done) | (simp [*]; done)), H', ⟨by first | omega | exact Nat.le_refl _⟩, ⟨by (with_reducible repeat (first | apply Kd.R_alloc | apply Kd.R_drewN | apply Kd.R_drew)); exact Kd.R_mono HO559.out (fun _ hk => hk.2)⟩, ⟨by (with_reducible repeat (first | apply Kd.R_alloc | apply Kd.R_drewN | apply Kd.R_drew)); exact Kd.R_mono HO562.out (fun _ hk => trivial)⟩, ⟨by (with_reducible repeat (first | apply Kd.R_alloc | apply Kd.R_drewN | apply Kd.R_drew)); exact Kd.R_mono HO567.out (fun _ hk => hk.2)⟩, ⟨by repeat (first | (with_reducible first | exact HB.out | apply below_alloc | apply pw_below_drewN | apply below_drew1) | exact HB.out)⟩⟩
      subst c17
      have H1 : (if t564 = t556 then (laws_FnExactOverFrom.j0 k l0 a1 t555 t556 t557 t560 t563 t564 t565 (t565 != t557)) else (laws_FnExactOverFrom.j0 k l0 a1 t555 t556 t557 t560 t563 t564 t565 true)) = some r := by rw [if_pos rfl] at H; exact H
      clear H
      have H := H1
      clear H1
      by_cases c18 : t564 = t556
      rotate_left
      · rw [if_neg c18] at H
        have c18b0 : (t564 == t556) = false := beq_eq_false_iff_ne.mpr c18
        have c18b1 : (t564 != t556) = true := bne_iff_ne.mpr c18
        (first | rw [c18b0] | (simp only [i64_w, i32_w]; rw [c18b0]) | skip)
        have H' := Aside0.mk H
        clear H
        obtain ⟨Ao21, co21, eo21⟩ := Kd.R_slice HO567.out
        subst eo21
        obtain ⟨Ao22, co22, eo22⟩ := Kd.R_slice HO559.out
        subst eo22
        go_wp2_with (first | ((with_reducible refine gate_callee (f := 15) rfl ?_); refine goesL_ (some 43) rfl rfl Try.func15 (by kernel_rfl) rfl #[.slice Ao21 t563.length co21, .slice Ao22 t555.length co22] rfl (by (try simp only [List.map_toArray, List.map_cons, List.map_nil]); first | done | rfl | (simp only [List.length_drop, List.length_take]; rfl)) ?_; (with_reducible refine (laws_eqInt64S.calls k _ _ t563 _ _ t555 true _ ?side1 ?side2 ?side3 ?side4 A16.out).mono ?_); (case side1 => repeat (first | exact (Kd.R_reads' HO567.out).2.2 | (with_reducible refine Kd.C_alloc ?_ _) | (with_reducible refine Kd.C_drewN ?_ _) | (with_reducible refine Kd.C_drew ?_))); (case side2 => exact (Kd.R_reads' HO567.out).2.1); (case side3 => repeat (first | exact (Kd.R_reads' HO559.out).2.2 | (with_reducible refine Kd.C_alloc ?_ _) | (with_reducible refine Kd.C_drewN ?_ _) | (with_reducible refine Kd.C_drew ?_))); (case side4 => exact (Kd.R_reads' HO559.out).2.1); rintro e w' ⟨rfl, ⟨nd, rfl⟩⟩; refine ⟨_, rfl, ?_⟩))
        go_meet
        case rel => exact ⟨_, (true), (by first | rfl | (simp; done) | (simp [*]; done)), H', ⟨by first | omega | exact Nat.le_refl _⟩, ⟨by (with_reducible repeat (first | apply Kd.R_alloc | apply Kd.R_drewN | apply Kd.R_drew)); exact Kd.R_mono HO559.out (fun _ hk => hk.2)⟩, ⟨by (with_reducible repeat (first | apply Kd.R_alloc | apply Kd.R_drewN | apply Kd.R_drew)); exact Kd.R_mono HO562.out (fun _ hk => trivial)⟩, ⟨by (with_reducible repeat (first | apply Kd.R_alloc | apply Kd.R_drewN | apply Kd.R_drew)); exact Kd.R_mono HO567.out (fun _ hk => hk.2)⟩, ⟨by repeat (first | (with_reducible first | exact HB.out | apply below_alloc | apply pw_below_drewN | apply below_drew1) | exact HB.out)⟩⟩
      rw [if_pos c18] at H
      have c18b0 : (t564 == t556) = true := beq_iff_eq.mpr c18
      have c18b1 : (t564 != t556) = false := bne_eq_false_iff_eq.mpr c18
      clear c18
      (first | rw [c18b0] | (simp only [i64_w, i32_w]; rw [c18b0]) | skip)
      have H' := Aside0.mk H
      clear H
      obtain ⟨Ao19, co19, eo19⟩ := Kd.R_slice HO567.out
      subst eo19
      obtain ⟨Ao20, co20, eo20⟩ := Kd.R_slice HO559.out
      subst eo20
      go_wp2_with (first | ((with_reducible refine gate_callee (f := 15) rfl ?_); refine goesL_ (some 43) rfl rfl Try.func15 (by kernel_rfl) rfl #[.slice Ao19 t563.length co19, .slice Ao20 t555.length co20] rfl (by (try simp only [List.map_toArray, List.map_cons, List.map_nil]); first | done | rfl | (simp only [List.length_drop, List.length_take]; rfl)) ?_; (with_reducible refine (laws_eqInt64S.calls k _ _ t563 _ _ t555 true _ ?side1 ?side2 ?side3 ?side4 A16.out).mono ?_); (case side1 => repeat (first | exact (Kd.R_reads' HO567.out).2.2 | (with_reducible refine Kd.C_alloc ?_ _) | (with_reducible refine Kd.C_drewN ?_ _) | (with_reducible refine Kd.C_drew ?_))); (case side2 => exact (Kd.R_reads' HO567.out).2.1); (case side3 => repeat (first | exact (Kd.R_reads' HO559.out).2.2 | (with_reducible refine Kd.C_alloc ?_ _) | (with_reducible refine Kd.C_drewN ?_ _) | (with_reducible refine Kd.C_drew ?_))); (case side4 => exact (Kd.R_reads' HO559.out).2.1); rintro e w' ⟨rfl, ⟨nd, rfl⟩⟩; refine ⟨_, rfl, ?_⟩))
      go_meet
      case rel => exact ⟨_, ((t565 != t557)), (by first | rfl | (simp; done) | (simp [*]; done)), H', ⟨by first | omega | exact Nat.le_refl _⟩, ⟨by (with_reducible repeat (first | apply Kd.R_alloc | apply Kd.R_drewN | apply Kd.R_drew)); exact Kd.R_mono HO559.out (fun _ hk => hk.2)⟩, ⟨by (with_reducible repeat (first | apply Kd.R_alloc | apply Kd.R_drewN | apply Kd.R_drew)); exact Kd.R_mono HO562.out (fun _ hk => trivial)⟩, ⟨by (with_reducible repeat (first | apply Kd.R_alloc | apply Kd.R_drewN | apply Kd.R_drew)); exact Kd.R_mono HO567.out (fun _ hk => hk.2)⟩, ⟨by repeat (first | (with_reducible first | exact HB.out | apply below_alloc | apply pw_below_drewN | apply below_drew1) | exact HB.out)⟩⟩
    case rest =>
      clear HC9
      try clear c1
      try clear p2
      try clear c3
      try clear c4
      try clear c4b0
      try clear c8
      try clear c15
      try clear c16
      try clear c17
      try clear c18
      try clear c18b0
      try clear c18b1
      obtain ⟨kq, x54_8, rfl, HA, HJ8, HO_6, HO_9, HO_10, HB⟩ := hcut
      cases kq with
      | zero => exact absurd HA.out (by simp [laws_FnExactOverFrom.j0])
      | succ kj8 =>
        have H := HA.out
        clear HA
        simp only [laws_FnExactOverFrom.j0] at H
        by_cases c25 : x54_8 = true
        rotate_left
        · replace c25 := Bool.eq_false_iff.mpr c25
          subst c25
          have H1 : ((laws_toStampS.f kj8 l0).bind fun t569 => ((laws_eqStampS.f kj8 t560 t569).bind fun t572 => (if t572 = true then ((laws_markStampS.f kj8 t560 1).bind fun bt573 => (if bt573.1 < 0 then (laws_FnExactOverFrom.j1 kj8 l0 a1 t555 t556 t557 t563 true) else ((laws_eqInt64S.f kj8 t563 t555).bind fun t575 => (if t575 = true then (if t564 = t556 then (laws_FnExactOverFrom.j1 kj8 l0 a1 t555 t556 t557 t563 (t565 != t557)) else (laws_FnExactOverFrom.j1 kj8 l0 a1 t555 t556 t557 t563 true)) else (laws_FnExactOverFrom.j1 kj8 l0 a1 t555 t556 t557 t563 true))))) else (some false)))) = some r := by rw [if_neg (show ¬ (false = true) by decide)] at H; exact H
          clear H
          have H := H1
          clear H1
          replace H := Option.bind_eq_some_iff.mp H
          obtain ⟨t569, A260, H⟩ := H
          replace H : ((laws_eqStampS.f kj8 t560 t569).bind fun t572 => (if t572 = true then ((laws_markStampS.f kj8 t560 1).bind fun bt573 => (if bt573.1 < 0 then (laws_FnExactOverFrom.j1 kj8 l0 a1 t555 t556 t557 t563 true) else ((laws_eqInt64S.f kj8 t563 t555).bind fun t575 => (if t575 = true then (if t564 = t556 then (laws_FnExactOverFrom.j1 kj8 l0 a1 t555 t556 t557 t563 (t565 != t557)) else (laws_FnExactOverFrom.j1 kj8 l0 a1 t555 t556 t557 t563 true)) else (laws_FnExactOverFrom.j1 kj8 l0 a1 t555 t556 t557 t563 true))))) else (some false))) = some r := H
          have A26 := Aside0.mk A260
          clear A260
          replace H := Option.bind_eq_some_iff.mp H
          obtain ⟨t572, A270, H⟩ := H
          replace H : (if t572 = true then ((laws_markStampS.f kj8 t560 1).bind fun bt573 => (if bt573.1 < 0 then (laws_FnExactOverFrom.j1 kj8 l0 a1 t555 t556 t557 t563 true) else ((laws_eqInt64S.f kj8 t563 t555).bind fun t575 => (if t575 = true then (if t564 = t556 then (laws_FnExactOverFrom.j1 kj8 l0 a1 t555 t556 t557 t563 (t565 != t557)) else (laws_FnExactOverFrom.j1 kj8 l0 a1 t555 t556 t557 t563 true)) else (laws_FnExactOverFrom.j1 kj8 l0 a1 t555 t556 t557 t563 true))))) else (some false)) = some r := H
          have A27 := Aside0.mk A270
          clear A270
          by_cases c28 : t572 = true
          rotate_left
          · replace c28 := Bool.eq_false_iff.mpr c28
            subst c28
            have H1 : (some false) = some r := by rw [if_neg (show ¬ (false = true) by decide)] at H; exact H
            clear H
            have H := H1
            clear H1
            exact absurd ((Option.some.inj H).trans HLAW.out) (by decide)

          subst c28
          have H1 : ((laws_markStampS.f kj8 t560 1).bind fun bt573 => (if bt573.1 < 0 then (laws_FnExactOverFrom.j1 kj8 l0 a1 t555 t556 t557 t563 true) else ((laws_eqInt64S.f kj8 t563 t555).bind fun t575 => (if t575 = true then (if t564 = t556 then (laws_FnExactOverFrom.j1 kj8 l0 a1 t555 t556 t557 t563 (t565 != t557)) else (laws_FnExactOverFrom.j1 kj8 l0 a1 t555 t556 t557 t563 true)) else (laws_FnExactOverFrom.j1 kj8 l0 a1 t555 t556 t557 t563 true))))) = some r := by rw [if_pos rfl] at H; exact H
          clear H
          have H := H1
          clear H1
          replace H := Option.bind_eq_some_iff.mp H
          obtain ⟨⟨t573, t574⟩, A290, H⟩ := H
          replace H : (if t573 < 0 then (laws_FnExactOverFrom.j1 kj8 l0 a1 t555 t556 t557 t563 true) else ((laws_eqInt64S.f kj8 t563 t555).bind fun t575 => (if t575 = true then (if t564 = t556 then (laws_FnExactOverFrom.j1 kj8 l0 a1 t555 t556 t557 t563 (t565 != t557)) else (laws_FnExactOverFrom.j1 kj8 l0 a1 t555 t556 t557 t563 true)) else (laws_FnExactOverFrom.j1 kj8 l0 a1 t555 t556 t557 t563 true)))) = some r := H
          have A29 := Aside0.mk A290
          clear A290
          have HC30 := Aside0.mk H
          clear H
          go_upto_region 14 with (first | ((with_reducible refine gate_callee (f := 18) rfl ?_); refine goesL_ (some 57) rfl rfl Try.func18 (by kernel_rfl) rfl #[.slice A0 l0.length c0] rfl (by (try simp only [List.map_toArray, List.map_cons, List.map_nil]); first | done | rfl | (simp only [List.length_drop, List.length_take]; rfl)) ?_; (with_reducible refine (laws_toStampS.calls kj8 _ _ l0 t569 _ ?side1 ?side2 A26.out).mono ?_); (case side1 => repeat (first | exact (Kd.C_below HR0.out HB.out) | (with_reducible refine Kd.C_alloc ?_ _) | (with_reducible refine Kd.C_drewN ?_ _) | (with_reducible refine Kd.C_drew ?_))); (case side2 => exact HC0.out); rintro e w31 ⟨v570, rfl, ho0, hb⟩; refine ⟨_, rfl, ?_⟩; have n0_ := Aside0.mk (Kd.R_below (by (with_reducible repeat (first | apply Kd.R_alloc | apply Kd.R_drewN | apply Kd.R_drew)); exact HO_6.out) hb); have n1_ := Aside0.mk (Kd.R_elder' (by (with_reducible repeat (first | apply Kd.R_alloc | apply Kd.R_drewN | apply Kd.R_drew)); exact HO_9.out) (Kd.R_base ho0) hb); have n2_ := Aside0.mk (Kd.R_below (by (with_reducible repeat (first | apply Kd.R_alloc | apply Kd.R_drewN | apply Kd.R_drew)); exact HO_10.out) hb); have n3_ := Aside0.mk (Kd.R_lower (Kd.R_new' ho0 (Kd.R_lt (by (with_reducible repeat (first | apply Kd.R_alloc | apply Kd.R_drewN | apply Kd.R_drew)); exact HO_9.out))) (below_size (by repeat (first | (with_reducible first | exact HB.out | apply below_alloc | apply pw_below_drewN | apply below_drew1) | exact HB.out)))); have n4_ := Aside0.mk (below_step (by repeat (first | (with_reducible first | exact HB.out | apply below_alloc | apply pw_below_drewN | apply below_drew1) | exact HB.out)) hb); clear HO_6; clear HO_9; clear HO_10; clear HB; have HO_6 := n0_; have HO_9 := n1_; have HO_10 := n2_; have HO571 := n3_; have HB := n4_; clear n0_ n1_ n2_ n3_ n4_; (try clear hb); (try clear hb2); (try clear hk); (try clear hi); (try clear ho0); obtain ⟨Ao32, co32, eo32⟩ := Kd.R_slice HO571.out; subst eo32) | ((with_reducible refine gate_callee (f := 20) rfl ?_); refine goesL_ (some 58) rfl rfl Try.func20 (by kernel_rfl) rfl #[.slice Ao14 t560.length co14, .slice Ao32 t569.length co32] rfl (by (try simp only [List.map_toArray, List.map_cons, List.map_nil]); first | done | rfl | (simp only [List.length_drop, List.length_take]; rfl)) ?_; (with_reducible refine (laws_eqStampS.calls kj8 _ _ t560 _ _ t569 true _ ?side1 ?side2 ?side3 ?side4 A27.out).mono ?_); (case side1 => repeat (first | exact (Kd.R_reads' HO_9.out).2.2 | (with_reducible refine Kd.C_alloc ?_ _) | (with_reducible refine Kd.C_drewN ?_ _) | (with_reducible refine Kd.C_drew ?_))); (case side2 => exact (Kd.R_reads' HO_9.out).2.1); (case side3 => repeat (first | exact (Kd.R_reads' HO571.out).2.2 | (with_reducible refine Kd.C_alloc ?_ _) | (with_reducible refine Kd.C_drewN ?_ _) | (with_reducible refine Kd.C_drew ?_))); (case side4 => exact (Kd.R_reads' HO571.out).2.1); rintro e w33 ⟨rfl, hb⟩; refine ⟨_, rfl, ?_⟩; have n0_ := Aside0.mk (Kd.R_below (by (with_reducible repeat (first | apply Kd.R_alloc | apply Kd.R_drewN | apply Kd.R_drew)); exact HO_6.out) hb); have n1_ := Aside0.mk (Kd.R_below (by (with_reducible repeat (first | apply Kd.R_alloc | apply Kd.R_drewN | apply Kd.R_drew)); exact HO_9.out) hb); have n2_ := Aside0.mk (Kd.R_below (by (with_reducible repeat (first | apply Kd.R_alloc | apply Kd.R_drewN | apply Kd.R_drew)); exact HO_10.out) hb); have n3_ := Aside0.mk (Kd.R_below (by (with_reducible repeat (first | apply Kd.R_alloc | apply Kd.R_drewN | apply Kd.R_drew)); exact HO571.out) hb); have n4_ := Aside0.mk (below_step (by repeat (first | (with_reducible first | exact HB.out | apply below_alloc | apply pw_below_drewN | apply below_drew1) | exact HB.out)) hb); clear HO_6; clear HO_9; clear HO_10; clear HO571; clear HB; have HO_6 := n0_; have HO_9 := n1_; have HO_10 := n2_; have HO571 := n3_; have HB := n4_; clear n0_ n1_ n2_ n3_ n4_; (try clear hb); (try clear hb2); (try clear hk); (try clear hi)) | ((with_reducible refine gate_callee (f := 27) rfl ?_); refine goesL_ (some 62) rfl rfl Try.func27 (by kernel_rfl) rfl #[.slice Ao14 t560.length co14, .int .i64 1] rfl (by (try simp only [List.map_toArray, List.map_cons, List.map_nil]); first | done | rfl | (simp only [List.length_drop, List.length_take]; rfl)) ?_; (with_reducible refine (laws_markStampS.calls kj8 (fun k_ => some k_ = (.slice Ao14 t560.length co14 : Value).ownBlock) (.slice Ao14 t560.length co14) t560 1 t573 t574 w _ ?side1 ?side2 A29.out).mono ?_); (case side1 => repeat (first | (with_reducible first | exact HB.out | apply below_alloc | apply pw_below_drewN | apply below_drew1) | exact HB.out)); (case side2 => exact Kd.R_tight rfl HO_9.out); rintro e w34 ⟨rfl, hy0, hb, hkp⟩; refine ⟨_, rfl, ?_⟩; have n0_ := Aside0.mk (Kd.R_mono (ok' := fun k_ => some k_ ≠ (v566 : Value).ownBlock) (Kd.R_keptB ((Kd.R_apart' HO_6.out (Kd.R_typed HO_9.out) (by decide))) hkp (fun k_ hk_ hs_ => (hk_.2) hs_)) (fun k_ hk_ => hk_.1.1)); have n1_ := Aside0.mk (Kd.R_reok rfl hy0 (fun k_ e_ => HO_9.out.1 k_ e_)); have n2_ := Aside0.mk (Kd.R_mono (ok' := fun k_ => some k_ ≠ (v558 : Value).ownBlock) (Kd.R_keptB ((Kd.R_apart' HO_10.out (Kd.R_typed HO_9.out) (by decide))) hkp (fun k_ hk_ hs_ => (hk_.2) hs_)) (fun k_ hk_ => hk_.1.1)); have n3_ := Aside0.mk (Kd.R_mono (ok' := fun k_ => some k_ ≠ (.slice Ao14 t560.length co14 : Value).ownBlock) (Kd.R_keptB (HO571.out) hkp (fun k_ hk_ hs_ => (hk_.2) hs_)) (fun k_ hk_ => hk_.1.2)); have n4_ := Aside0.mk (hb); clear HO_6; clear HO_9; clear HO_10; clear HO571; clear HB; have HO_6 := n0_; have HO_9 := n1_; have HO_10 := n2_; have HO571 := n3_; have HB := n4_; clear n0_ n1_ n2_ n3_ n4_; (try clear hb); (try clear hkp); (try clear hy0)))
          (try simp only [Act.put, List.setIfInBounds_toArray, List.set_cons_zero, List.set_cons_succ])
          go_cut [80] (fun v80 wc => ∃ (kq : Nat) (x80_29 : Bool), v80 = .bool x80_29 ∧ Aside0 (laws_FnExactOverFrom.j1 kq l0 a1 t555 t556 t557 t563 x80_29 = some r) ∧ Aside0 (kq ≤ kj8) ∧ Aside0 (Kd.R (Kd.int .i64) 2 wc w.heap.size (fun k_ => some k_ ≠ (v566 : Value).ownBlock) v558 t555) ∧ Aside0 (Kd.R (Kd.int .i64) 2 wc w.heap.size (fun k_ => some k_ ≠ (v558 : Value).ownBlock) v566 t563) ∧ Aside0 (Below w.heap.size w wc))
          case first =>
            have H := HC30.out
            clear HC30
            by_cases c35 : t573 < 0
            rotate_left
            · rw [if_neg c35] at H
              have c35b0 : decide (t573 < 0) = false := decide_eq_false c35
              clear c35
              (first | rw [c35b0] | (simp only [i64_w, i32_w]; rw [c35b0]) | skip)
              replace H := Option.bind_eq_some_iff.mp H
              obtain ⟨t575, A360, H⟩ := H
              replace H : (if t575 = true then (if t564 = t556 then (laws_FnExactOverFrom.j1 kj8 l0 a1 t555 t556 t557 t563 (t565 != t557)) else (laws_FnExactOverFrom.j1 kj8 l0 a1 t555 t556 t557 t563 true)) else (laws_FnExactOverFrom.j1 kj8 l0 a1 t555 t556 t557 t563 true)) = some r := H
              have A36 := Aside0.mk A360
              clear A360
              by_cases c37 : t575 = true
              rotate_left
              · replace c37 := Bool.eq_false_iff.mpr c37
                subst c37
                have H1 : (laws_FnExactOverFrom.j1 kj8 l0 a1 t555 t556 t557 t563 true) = some r := by rw [if_neg (show ¬ (false = true) by decide)] at H; exact H
                clear H
                have H := H1
                clear H1
                have H' := Aside0.mk H
                clear H
                obtain ⟨Ao43, co43, eo43⟩ := Kd.R_slice HO_10.out
                subst eo43
                obtain ⟨Ao44, co44, eo44⟩ := Kd.R_slice HO_6.out
                subst eo44
                go_wp2_with (first | (go_at_call 15; (with_reducible refine (laws_eqInt64S.calls kj8 _ _ t563 _ _ t555 false _ ?side1 ?side2 ?side3 ?side4 A36.out).mono ?_); (case side1 => repeat (first | exact (Kd.R_reads' HO_10.out).2.2 | (with_reducible refine Kd.C_alloc ?_ _) | (with_reducible refine Kd.C_drewN ?_ _) | (with_reducible refine Kd.C_drew ?_))); (case side2 => exact (Kd.R_reads' HO_10.out).2.1); (case side3 => repeat (first | exact (Kd.R_reads' HO_6.out).2.2 | (with_reducible refine Kd.C_alloc ?_ _) | (with_reducible refine Kd.C_drewN ?_ _) | (with_reducible refine Kd.C_drew ?_))); (case side4 => exact (Kd.R_reads' HO_6.out).2.1); rintro e w' ⟨rfl, ⟨nd, rfl⟩⟩))
                go_meet
                case rel => exact ⟨_, (true), (by first | rfl | (simp; done) | (simp [*]; done)), H', ⟨by have := HJ8.out; first | omega | exact Nat.le_refl _⟩, ⟨by (with_reducible repeat (first | apply Kd.R_alloc | apply Kd.R_drewN | apply Kd.R_drew)); exact HO_6.out⟩, ⟨by (with_reducible repeat (first | apply Kd.R_alloc | apply Kd.R_drewN | apply Kd.R_drew)); exact HO_10.out⟩, ⟨by repeat (first | (with_reducible first | exact HB.out | apply below_alloc | apply pw_below_drewN | apply below_drew1) | exact HB.out)⟩⟩
              subst c37
              have H1 : (if t564 = t556 then (laws_FnExactOverFrom.j1 kj8 l0 a1 t555 t556 t557 t563 (t565 != t557)) else (laws_FnExactOverFrom.j1 kj8 l0 a1 t555 t556 t557 t563 true)) = some r := by rw [if_pos rfl] at H; exact H
              clear H
              have H := H1
              clear H1
              by_cases c38 : t564 = t556
              rotate_left
              · rw [if_neg c38] at H
                have c38b0 : (t564 == t556) = false := beq_eq_false_iff_ne.mpr c38
                have c38b1 : (t564 != t556) = true := bne_iff_ne.mpr c38
                have H' := Aside0.mk H
                clear H
                obtain ⟨Ao41, co41, eo41⟩ := Kd.R_slice HO_10.out
                subst eo41
                obtain ⟨Ao42, co42, eo42⟩ := Kd.R_slice HO_6.out
                subst eo42
                go_wp2_with (first | (go_at_call 15; (with_reducible refine (laws_eqInt64S.calls kj8 _ _ t563 _ _ t555 true _ ?side1 ?side2 ?side3 ?side4 A36.out).mono ?_); (case side1 => repeat (first | exact (Kd.R_reads' HO_10.out).2.2 | (with_reducible refine Kd.C_alloc ?_ _) | (with_reducible refine Kd.C_drewN ?_ _) | (with_reducible refine Kd.C_drew ?_))); (case side2 => exact (Kd.R_reads' HO_10.out).2.1); (case side3 => repeat (first | exact (Kd.R_reads' HO_6.out).2.2 | (with_reducible refine Kd.C_alloc ?_ _) | (with_reducible refine Kd.C_drewN ?_ _) | (with_reducible refine Kd.C_drew ?_))); (case side4 => exact (Kd.R_reads' HO_6.out).2.1); rintro e w' ⟨rfl, ⟨nd, rfl⟩⟩))
                go_meet
                case rel => exact ⟨_, (true), (by first | rfl | (simp; done) | (simp [*]; done)), H', ⟨by have := HJ8.out; first | omega | exact Nat.le_refl _⟩, ⟨by (with_reducible repeat (first | apply Kd.R_alloc | apply Kd.R_drewN | apply Kd.R_drew)); exact HO_6.out⟩, ⟨by (with_reducible repeat (first | apply Kd.R_alloc | apply Kd.R_drewN | apply Kd.R_drew)); exact HO_10.out⟩, ⟨by repeat (first | (with_reducible first | exact HB.out | apply below_alloc | apply pw_below_drewN | apply below_drew1) | exact HB.out)⟩⟩
              rw [if_pos c38] at H
              have c38b0 : (t564 == t556) = true := beq_iff_eq.mpr c38
              have c38b1 : (t564 != t556) = false := bne_eq_false_iff_eq.mpr c38
              clear c38
              have H' := Aside0.mk H
              clear H
              obtain ⟨Ao39, co39, eo39⟩ := Kd.R_slice HO_10.out
              subst eo39
              obtain ⟨Ao40, co40, eo40⟩ := Kd.R_slice HO_6.out
              subst eo40
              go_wp2_with (first | (go_at_call 15; (with_reducible refine (laws_eqInt64S.calls kj8 _ _ t563 _ _ t555 true _ ?side1 ?side2 ?side3 ?side4 A36.out).mono ?_); (case side1 => repeat (first | exact (Kd.R_reads' HO_10.out).2.2 | (with_reducible refine Kd.C_alloc ?_ _) | (with_reducible refine Kd.C_drewN ?_ _) | (with_reducible refine Kd.C_drew ?_))); (case side2 => exact (Kd.R_reads' HO_10.out).2.1); (case side3 => repeat (first | exact (Kd.R_reads' HO_6.out).2.2 | (with_reducible refine Kd.C_alloc ?_ _) | (with_reducible refine Kd.C_drewN ?_ _) | (with_reducible refine Kd.C_drew ?_))); (case side4 => exact (Kd.R_reads' HO_6.out).2.1); rintro e w' ⟨rfl, ⟨nd, rfl⟩⟩))
              go_meet
              case rel => exact ⟨_, ((t565 != t557)), (by first | rfl | (simp; done) | (simp [*]; done)), H', ⟨by have := HJ8.out; first | omega | exact Nat.le_refl _⟩, ⟨by (with_reducible repeat (first | apply Kd.R_alloc | apply Kd.R_drewN | apply Kd.R_drew)); exact HO_6.out⟩, ⟨by (with_reducible repeat (first | apply Kd.R_alloc | apply Kd.R_drewN | apply Kd.R_drew)); exact HO_10.out⟩, ⟨by repeat (first | (with_reducible first | exact HB.out | apply below_alloc | apply pw_below_drewN | apply below_drew1) | exact HB.out)⟩⟩
            rw [if_pos c35] at H
            have c35b0 : decide (t573 < 0) = true := decide_eq_true c35
            clear c35
            (first | rw [c35b0] | (simp only [i64_w, i32_w]; rw [c35b0]) | skip)
            have H' := Aside0.mk H
            clear H
            go_wp2
            go_meet
            case rel => exact ⟨_, (true), (by first | rfl | (simp; done) | (simp [*]; done)), H', ⟨by have := HJ8.out; first | omega | exact Nat.le_refl _⟩, ⟨by (with_reducible repeat (first | apply Kd.R_alloc | apply Kd.R_drewN | apply Kd.R_drew)); exact HO_6.out⟩, ⟨by (with_reducible repeat (first | apply Kd.R_alloc | apply Kd.R_drewN | apply Kd.R_drew)); exact HO_10.out⟩, ⟨by repeat (first | (with_reducible first | exact HB.out | apply below_alloc | apply pw_below_drewN | apply below_drew1) | exact HB.out)⟩⟩
          case rest =>
            clear HC30
            try clear c1
            try clear c2
            try clear p2
            try clear c3
            try clear c4
            try clear c4b0
            try clear c8
            try clear c15
            try clear c16
            try clear c17
            try clear c18
            try clear c18b0
            try clear c18b1
            try clear c20
            try clear c25
            try clear c27
            try clear c28
            try clear c30
            try clear c31
            try clear c35
            try clear c35b0
            try clear c37
            try clear c38
            try clear c38b0
            try clear c38b1
            try clear p2
            obtain ⟨kq, x80_29, rfl, HA, HJ29, HO_6, HO_10, HB⟩ := hcut
            cases kq with
            | zero => exact absurd HA.out (by simp [laws_FnExactOverFrom.j1])
            | succ kj29 =>
              have H := HA.out
              clear HA
              simp only [laws_FnExactOverFrom.j1] at H
              by_cases c45 : x80_29 = true
              rotate_left
              · replace c45 := Bool.eq_false_iff.mpr c45
                subst c45
                have H1 : ((laws_markInt64S.f kj29 t563 1).bind fun bt576 => ((laws_heldInt64S.f kj29 bt576.2 1).bind fun t578 => (if t578 < 0 then (some false) else (if t578 = bt576.1 then ((laws_toStampS.f kj29 l0).bind fun t579 => ((impl_OverFrom.f kj29 t579 a1).bind fun bt582 => ((laws_eqInt64S.f kj29 bt582.1 t555).bind fun t587 => (if t587 = true then (if bt582.2.1 = t556 then (laws_FnExactOverFrom.j2 kj29 bt576.2 bt576.1 (bt582.2.2 != t557)) else (laws_FnExactOverFrom.j2 kj29 bt576.2 bt576.1 true)) else (laws_FnExactOverFrom.j2 kj29 bt576.2 bt576.1 true))))) else (some false))))) = some r := by rw [if_neg (show ¬ (false = true) by decide)] at H; exact H
                clear H
                have H := H1
                clear H1
                replace H := Option.bind_eq_some_iff.mp H
                obtain ⟨⟨t576, t577⟩, A460, H⟩ := H
                replace H : ((laws_heldInt64S.f kj29 t577 1).bind fun t578 => (if t578 < 0 then (some false) else (if t578 = t576 then ((laws_toStampS.f kj29 l0).bind fun t579 => ((impl_OverFrom.f kj29 t579 a1).bind fun bt582 => ((laws_eqInt64S.f kj29 bt582.1 t555).bind fun t587 => (if t587 = true then (if bt582.2.1 = t556 then (laws_FnExactOverFrom.j2 kj29 t577 t576 (bt582.2.2 != t557)) else (laws_FnExactOverFrom.j2 kj29 t577 t576 true)) else (laws_FnExactOverFrom.j2 kj29 t577 t576 true))))) else (some false)))) = some r := H
                have A46 := Aside0.mk A460
                clear A460
                replace H := Option.bind_eq_some_iff.mp H
                obtain ⟨t578, A470, H⟩ := H
                replace H : (if t578 < 0 then (some false) else (if t578 = t576 then ((laws_toStampS.f kj29 l0).bind fun t579 => ((impl_OverFrom.f kj29 t579 a1).bind fun bt582 => ((laws_eqInt64S.f kj29 bt582.1 t555).bind fun t587 => (if t587 = true then (if bt582.2.1 = t556 then (laws_FnExactOverFrom.j2 kj29 t577 t576 (bt582.2.2 != t557)) else (laws_FnExactOverFrom.j2 kj29 t577 t576 true)) else (laws_FnExactOverFrom.j2 kj29 t577 t576 true))))) else (some false))) = some r := H
                have A47 := Aside0.mk A470
                clear A470
                by_cases c48 : t578 < 0
                rotate_left
                · rw [if_neg c48] at H
                  have c48b0 : decide (t578 < 0) = false := decide_eq_false c48
                  clear c48
                  by_cases c49 : t578 = t576
                  rotate_left
                  · rw [if_neg c49] at H
                    have c49b0 : (t578 == t576) = false := beq_eq_false_iff_ne.mpr c49
                    have c49b1 : (t578 != t576) = true := bne_iff_ne.mpr c49
                    exact absurd ((Option.some.inj H).trans HLAW.out) (by decide)
                  rw [if_pos c49] at H
                  have c49b0 : (t578 == t576) = true := beq_iff_eq.mpr c49
                  have c49b1 : (t578 != t576) = false := bne_eq_false_iff_eq.mpr c49
                  clear c49
                  replace H := Option.bind_eq_some_iff.mp H
                  obtain ⟨t579, A500, H⟩ := H
                  replace H : ((impl_OverFrom.f kj29 t579 a1).bind fun bt582 => ((laws_eqInt64S.f kj29 bt582.1 t555).bind fun t587 => (if t587 = true then (if bt582.2.1 = t556 then (laws_FnExactOverFrom.j2 kj29 t577 t576 (bt582.2.2 != t557)) else (laws_FnExactOverFrom.j2 kj29 t577 t576 true)) else (laws_FnExactOverFrom.j2 kj29 t577 t576 true)))) = some r := H
                  have A50 := Aside0.mk A500
                  clear A500
                  replace H := Option.bind_eq_some_iff.mp H
                  obtain ⟨⟨t582, t583, t584⟩, A510, H⟩ := H
                  replace H : ((laws_eqInt64S.f kj29 t582 t555).bind fun t587 => (if t587 = true then (if t583 = t556 then (laws_FnExactOverFrom.j2 kj29 t577 t576 (t584 != t557)) else (laws_FnExactOverFrom.j2 kj29 t577 t576 true)) else (laws_FnExactOverFrom.j2 kj29 t577 t576 true))) = some r := H
                  have A51 := Aside0.mk A510
                  clear A510
                  have HC52 := Aside0.mk H
                  clear H
                  obtain ⟨Ao53, co53, eo53⟩ := Kd.R_slice HO_10.out
                  subst eo53
                  go_upto_region 25 with (first | ((with_reducible refine gate_callee (f := 28) rfl ?_); refine goesL_ (some 83) rfl rfl Try.func28 (by kernel_rfl) rfl #[.slice Ao53 t563.length co53, .int .i64 1] rfl (by (try simp only [List.map_toArray, List.map_cons, List.map_nil]); first | done | rfl | (simp only [List.length_drop, List.length_take]; rfl)) ?_; (with_reducible refine (laws_markInt64S.calls kj29 (fun k_ => some k_ = (.slice Ao53 t563.length co53 : Value).ownBlock) (.slice Ao53 t563.length co53) t563 1 t576 t577 w _ ?side1 ?side2 A46.out).mono ?_); (case side1 => repeat (first | (with_reducible first | exact HB.out | apply below_alloc | apply pw_below_drewN | apply below_drew1) | exact HB.out)); (case side2 => exact Kd.R_tight rfl HO_10.out); rintro e w54 ⟨rfl, hy0, hb, hkp⟩; refine ⟨_, rfl, ?_⟩; have n0_ := Aside0.mk (Kd.R_mono (ok' := fun k_ => some k_ ≠ (.slice Ao53 t563.length co53 : Value).ownBlock) (Kd.R_keptB (HO_6.out) hkp (fun k_ hk_ hs_ => (hk_) hs_)) (fun k_ hk_ => hk_.1)); have n1_ := Aside0.mk (Kd.R_reok rfl hy0 (fun k_ e_ => HO_10.out.1 k_ e_)); have n2_ := Aside0.mk (hb); clear HO_6; clear HO_10; clear HB; have HO_6 := n0_; have HO_10 := n1_; have HB := n2_; clear n0_ n1_ n2_; (try clear hb); (try clear hkp); (try clear hy0)) | ((with_reducible refine gate_callee (f := 29) rfl ?_); refine goesL_ (some 86) rfl rfl Try.func29 (by kernel_rfl) rfl #[.slice Ao53 t577.length co53, .int .i64 1] rfl (by (try simp only [List.map_toArray, List.map_cons, List.map_nil]); first | done | (rw [show t577.length = t563.length from (Kd.R_reads' HO_10.out).1.symm] <;> rfl) | rfl | (simp only [List.length_drop, List.length_take]; rfl)) ?_; (with_reducible refine (laws_heldInt64S.calls kj29 _ _ t577 1 t578 _ ?side1 ?side2 A47.out).mono ?_); (case side1 => repeat (first | exact (Kd.R_reads' HO_10.out).2.2 | (with_reducible refine Kd.C_alloc ?_ _) | (with_reducible refine Kd.C_drewN ?_ _) | (with_reducible refine Kd.C_drew ?_))); (case side2 => rw [show t577.length = t563.length from (Kd.R_reads' HO_10.out).1.symm]; exact (Kd.R_reads' HO_10.out).2.1); rintro e w' ⟨rfl, ⟨nd, rfl⟩⟩; refine ⟨_, rfl, ?_⟩) | ((with_reducible refine gate_callee (f := 18) rfl ?_); refine goesL_ (some 94) rfl rfl Try.func18 (by kernel_rfl) rfl #[.slice A0 l0.length c0] rfl (by (try simp only [List.map_toArray, List.map_cons, List.map_nil]); first | done | rfl | (simp only [List.length_drop, List.length_take]; rfl)) ?_; (with_reducible refine (laws_toStampS.calls kj29 _ _ l0 t579 _ ?side1 ?side2 A50.out).mono ?_); (case side1 => repeat (first | exact (Kd.C_below HR0.out (by repeat (first | (with_reducible first | exact HB.out | apply below_alloc | apply pw_below_drewN | apply below_drew1) | exact HB.out))) | (with_reducible refine Kd.C_alloc ?_ _) | (with_reducible refine Kd.C_drewN ?_ _) | (with_reducible refine Kd.C_drew ?_))); (case side2 => exact HC0.out); rintro e w55 ⟨v580, rfl, ho0, hb⟩; refine ⟨_, rfl, ?_⟩; have n0_ := Aside0.mk (Kd.R_below (by (with_reducible repeat (first | apply Kd.R_alloc | apply Kd.R_drewN | apply Kd.R_drew)); exact HO_6.out) hb); have n1_ := Aside0.mk (Kd.R_below (by (with_reducible repeat (first | apply Kd.R_alloc | apply Kd.R_drewN | apply Kd.R_drew)); exact HO_10.out) hb); have n2_ := Aside0.mk (Kd.R_lower ho0 (below_size (by repeat (first | (with_reducible first | exact HB.out | apply below_alloc | apply pw_below_drewN | apply below_drew1) | exact HB.out)))); have n3_ := Aside0.mk (below_step (by repeat (first | (with_reducible first | exact HB.out | apply below_alloc | apply pw_below_drewN | apply below_drew1) | exact HB.out)) hb); clear HO_6; clear HO_10; clear HB; have HO_6 := n0_; have HO_10 := n1_; have HO581 := n2_; have HB := n3_; clear n0_ n1_ n2_ n3_; (try clear hb); (try clear hb2); (try clear hk); (try clear hi); (try clear ho0); obtain ⟨Ao56, co56, eo56⟩ := Kd.R_slice HO581.out; subst eo56) | ((with_reducible refine gate_callee (f := 31) rfl ?_); refine goesL_ (some 96) rfl rfl Try.func31 (by kernel_rfl) rfl #[.slice Ao56 t579.length co56, .int .i64 a1] rfl (by (try simp only [List.map_toArray, List.map_cons, List.map_nil]); first | done | rfl | (simp only [List.length_drop, List.length_take]; rfl)) ?_; (with_reducible refine (impl_OverFrom.calls kj29 _ _ t579 a1 t582 t583 t584 _ ?side1 ?side2 A51.out).mono ?_); (case side1 => repeat (first | exact (Kd.R_reads' HO581.out).2.2 | (with_reducible refine Kd.C_alloc ?_ _) | (with_reducible refine Kd.C_drewN ?_ _) | (with_reducible refine Kd.C_drew ?_))); (case side2 => exact (Kd.R_reads' HO581.out).2.1); rintro e w57 ⟨v585, rfl, ho0, hb⟩; refine ⟨_, rfl, ?_⟩; have n0_ := Aside0.mk (Kd.R_elder' (by (with_reducible repeat (first | apply Kd.R_alloc | apply Kd.R_drewN | apply Kd.R_drew)); exact HO_6.out) (Kd.R_base ho0) hb); have n1_ := Aside0.mk (Kd.R_elder' (by (with_reducible repeat (first | apply Kd.R_alloc | apply Kd.R_drewN | apply Kd.R_drew)); exact HO_10.out) (Kd.R_base ho0) hb); have n2_ := Aside0.mk (Kd.R_below (by (with_reducible repeat (first | apply Kd.R_alloc | apply Kd.R_drewN | apply Kd.R_drew)); exact HO581.out) hb); have n3_ := Aside0.mk (Kd.R_lower (Kd.R_new' (Kd.R_new' ho0 (Kd.R_lt (by (with_reducible repeat (first | apply Kd.R_alloc | apply Kd.R_drewN | apply Kd.R_drew)); exact HO_6.out))) (Kd.R_lt (by (with_reducible repeat (first | apply Kd.R_alloc | apply Kd.R_drewN | apply Kd.R_drew)); exact HO_10.out))) (below_size (by repeat (first | (with_reducible first | exact HB.out | apply below_alloc | apply pw_below_drewN | apply below_drew1) | exact HB.out)))); have n4_ := Aside0.mk (below_step (by repeat (first | (with_reducible first | exact HB.out | apply below_alloc | apply pw_below_drewN | apply below_drew1) | exact HB.out)) hb); clear HO_6; clear HO_10; clear HO581; clear HB; have HO_6 := n0_; have HO_10 := n1_; have HO581 := n2_; have HO586 := n3_; have HB := n4_; clear n0_ n1_ n2_ n3_ n4_; (try clear hb); (try clear hb2); (try clear hk); (try clear hi); (try clear ho0)))
                  (try simp only [Act.put, List.setIfInBounds_toArray, List.set_cons_zero, List.set_cons_succ])
                  go_cut [113] (fun v113 wc => ∃ (kq : Nat) (x113_51 : Bool), v113 = .bool x113_51 ∧ Aside0 (laws_FnExactOverFrom.j2 kq t577 t576 x113_51 = some r) ∧ Aside0 (kq ≤ kj29) ∧ Aside0 (Kd.R (Kd.int .i64) 2 wc w.heap.size (fun _ => True) (.slice Ao53 t563.length co53) t577) ∧ Aside0 (Below w.heap.size w wc))
                  case first =>
                    have H := HC52.out
                    clear HC52
                    replace H := Option.bind_eq_some_iff.mp H
                    obtain ⟨t587, A580, H⟩ := H
                    replace H : (if t587 = true then (if t583 = t556 then (laws_FnExactOverFrom.j2 kj29 t577 t576 (t584 != t557)) else (laws_FnExactOverFrom.j2 kj29 t577 t576 true)) else (laws_FnExactOverFrom.j2 kj29 t577 t576 true)) = some r := H
                    have A58 := Aside0.mk A580
                    clear A580
                    by_cases c59 : t587 = true
                    rotate_left
                    · replace c59 := Bool.eq_false_iff.mpr c59
                      subst c59
                      have H1 : (laws_FnExactOverFrom.j2 kj29 t577 t576 true) = some r := by rw [if_neg (show ¬ (false = true) by decide)] at H; exact H
                      clear H
                      have H := H1
                      clear H1
                      have H' := Aside0.mk H
                      clear H
                      obtain ⟨Ao65, co65, eo65⟩ := Kd.R_slice HO586.out
                      subst eo65
                      obtain ⟨Ao66, co66, eo66⟩ := Kd.R_slice HO_6.out
                      subst eo66
                      go_wp2_with (first | ((with_reducible refine gate_callee (f := 15) rfl ?_); refine goesL_ (some 102) rfl rfl Try.func15 (by kernel_rfl) rfl #[.slice Ao65 t582.length co65, .slice Ao66 t555.length co66] rfl (by (try simp only [List.map_toArray, List.map_cons, List.map_nil]); first | done | rfl | (simp only [List.length_drop, List.length_take]; rfl)) ?_; (with_reducible refine (laws_eqInt64S.calls kj29 _ _ t582 _ _ t555 false _ ?side1 ?side2 ?side3 ?side4 A58.out).mono ?_); (case side1 => repeat (first | exact (Kd.R_reads' HO586.out).2.2 | (with_reducible refine Kd.C_alloc ?_ _) | (with_reducible refine Kd.C_drewN ?_ _) | (with_reducible refine Kd.C_drew ?_))); (case side2 => exact (Kd.R_reads' HO586.out).2.1); (case side3 => repeat (first | exact (Kd.R_reads' HO_6.out).2.2 | (with_reducible refine Kd.C_alloc ?_ _) | (with_reducible refine Kd.C_drewN ?_ _) | (with_reducible refine Kd.C_drew ?_))); (case side4 => exact (Kd.R_reads' HO_6.out).2.1); rintro e w' ⟨rfl, ⟨nd, rfl⟩⟩; refine ⟨_, rfl, ?_⟩))
                      go_meet
                      case rel => exact ⟨_, (true), (by first | rfl | (simp; done) | (simp [*]; done)), H', ⟨by have := HJ8.out; have := HJ29.out; first | omega | exact Nat.le_refl _⟩, ⟨by (with_reducible repeat (first | apply Kd.R_alloc | apply Kd.R_drewN | apply Kd.R_drew)); exact Kd.R_mono HO_10.out (fun _ hk => trivial)⟩, ⟨by repeat (first | (with_reducible first | exact HB.out | apply below_alloc | apply pw_below_drewN | apply below_drew1) | exact HB.out)⟩⟩
                    subst c59
                    have H1 : (if t583 = t556 then (laws_FnExactOverFrom.j2 kj29 t577 t576 (t584 != t557)) else (laws_FnExactOverFrom.j2 kj29 t577 t576 true)) = some r := by rw [if_pos rfl] at H; exact H
                    clear H
                    have H := H1
                    clear H1
                    by_cases c60 : t583 = t556
                    rotate_left
                    · rw [if_neg c60] at H
                      have c60b0 : (t583 == t556) = false := beq_eq_false_iff_ne.mpr c60
                      have c60b1 : (t583 != t556) = true := bne_iff_ne.mpr c60
                      (first | rw [c60b0] | (simp only [i64_w, i32_w]; rw [c60b0]) | skip)
                      have H' := Aside0.mk H
                      clear H
                      obtain ⟨Ao63, co63, eo63⟩ := Kd.R_slice HO586.out
                      subst eo63
                      obtain ⟨Ao64, co64, eo64⟩ := Kd.R_slice HO_6.out
                      subst eo64
                      go_wp2_with (first | ((with_reducible refine gate_callee (f := 15) rfl ?_); refine goesL_ (some 102) rfl rfl Try.func15 (by kernel_rfl) rfl #[.slice Ao63 t582.length co63, .slice Ao64 t555.length co64] rfl (by (try simp only [List.map_toArray, List.map_cons, List.map_nil]); first | done | rfl | (simp only [List.length_drop, List.length_take]; rfl)) ?_; (with_reducible refine (laws_eqInt64S.calls kj29 _ _ t582 _ _ t555 true _ ?side1 ?side2 ?side3 ?side4 A58.out).mono ?_); (case side1 => repeat (first | exact (Kd.R_reads' HO586.out).2.2 | (with_reducible refine Kd.C_alloc ?_ _) | (with_reducible refine Kd.C_drewN ?_ _) | (with_reducible refine Kd.C_drew ?_))); (case side2 => exact (Kd.R_reads' HO586.out).2.1); (case side3 => repeat (first | exact (Kd.R_reads' HO_6.out).2.2 | (with_reducible refine Kd.C_alloc ?_ _) | (with_reducible refine Kd.C_drewN ?_ _) | (with_reducible refine Kd.C_drew ?_))); (case side4 => exact (Kd.R_reads' HO_6.out).2.1); rintro e w' ⟨rfl, ⟨nd, rfl⟩⟩; refine ⟨_, rfl, ?_⟩))
                      go_meet
                      case rel => exact ⟨_, (true), (by first | rfl | (simp; done) | (simp [*]; done)), H', ⟨by have := HJ8.out; have := HJ29.out; first | omega | exact Nat.le_refl _⟩, ⟨by (with_reducible repeat (first | apply Kd.R_alloc | apply Kd.R_drewN | apply Kd.R_drew)); exact Kd.R_mono HO_10.out (fun _ hk => trivial)⟩, ⟨by repeat (first | (with_reducible first | exact HB.out | apply below_alloc | apply pw_below_drewN | apply below_drew1) | exact HB.out)⟩⟩
                    rw [if_pos c60] at H
                    have c60b0 : (t583 == t556) = true := beq_iff_eq.mpr c60
                    have c60b1 : (t583 != t556) = false := bne_eq_false_iff_eq.mpr c60
                    clear c60
                    (first | rw [c60b0] | (simp only [i64_w, i32_w]; rw [c60b0]) | skip)
                    have H' := Aside0.mk H
                    clear H
                    obtain ⟨Ao61, co61, eo61⟩ := Kd.R_slice HO586.out
                    subst eo61
                    obtain ⟨Ao62, co62, eo62⟩ := Kd.R_slice HO_6.out
                    subst eo62
                    go_wp2_with (first | ((with_reducible refine gate_callee (f := 15) rfl ?_); refine goesL_ (some 102) rfl rfl Try.func15 (by kernel_rfl) rfl #[.slice Ao61 t582.length co61, .slice Ao62 t555.length co62] rfl (by (try simp only [List.map_toArray, List.map_cons, List.map_nil]); first | done | rfl | (simp only [List.length_drop, List.length_take]; rfl)) ?_; (with_reducible refine (laws_eqInt64S.calls kj29 _ _ t582 _ _ t555 true _ ?side1 ?side2 ?side3 ?side4 A58.out).mono ?_); (case side1 => repeat (first | exact (Kd.R_reads' HO586.out).2.2 | (with_reducible refine Kd.C_alloc ?_ _) | (with_reducible refine Kd.C_drewN ?_ _) | (with_reducible refine Kd.C_drew ?_))); (case side2 => exact (Kd.R_reads' HO586.out).2.1); (case side3 => repeat (first | exact (Kd.R_reads' HO_6.out).2.2 | (with_reducible refine Kd.C_alloc ?_ _) | (with_reducible refine Kd.C_drewN ?_ _) | (with_reducible refine Kd.C_drew ?_))); (case side4 => exact (Kd.R_reads' HO_6.out).2.1); rintro e w' ⟨rfl, ⟨nd, rfl⟩⟩; refine ⟨_, rfl, ?_⟩))
                    go_meet
                    case rel => exact ⟨_, ((t584 != t557)), (by first | rfl | (simp; done) | (simp [*]; done)), H', ⟨by have := HJ8.out; have := HJ29.out; first | omega | exact Nat.le_refl _⟩, ⟨by (with_reducible repeat (first | apply Kd.R_alloc | apply Kd.R_drewN | apply Kd.R_drew)); exact Kd.R_mono HO_10.out (fun _ hk => trivial)⟩, ⟨by repeat (first | (with_reducible first | exact HB.out | apply below_alloc | apply pw_below_drewN | apply below_drew1) | exact HB.out)⟩⟩
                  case rest =>
                    clear HC52
                    try clear c1
                    try clear c2
                    try clear p2
                    try clear c3
                    try clear c4
                    try clear c4b0
                    try clear c5
                    try clear c6
                    try clear c8
                    try clear c15
                    try clear c16
                    try clear c17
                    try clear c18
                    try clear c18b0
                    try clear c18b1
                    try clear c20
                    try clear c25
                    try clear c27
                    try clear c28
                    try clear c29
                    try clear c30
                    try clear c31
                    try clear c35
                    try clear c35b0
                    try clear c37
                    try clear c38
                    try clear c38b0
                    try clear c38b1
                    try clear c45
                    try clear c48
                    try clear c48b0
                    try clear c49
                    try clear c49b0
                    try clear c49b1
                    try clear c59
                    try clear c60
                    try clear c60b0
                    try clear c60b1
                    try clear p2
                    obtain ⟨kq, x113_51, rfl, HA, HJ51, HO_10, HB⟩ := hcut
                    have hl10_51 := (Kd.R_reads' HO_10.out).1
                    rw [hl10_51] at HO_10
                    (try simp only [hl10_51])
                    cases kq with
                    | zero => exact absurd HA.out (by simp [laws_FnExactOverFrom.j2])
                    | succ kj51 =>
                      have H := HA.out
                      clear HA
                      simp only [laws_FnExactOverFrom.j2] at H
                      by_cases c67 : x113_51 = true
                      rotate_left
                      · replace c67 := Bool.eq_false_iff.mpr c67
                        subst c67
                        have H1 : ((laws_heldInt64S.f kj51 t577 1).bind fun t588 => (if t588 < 0 then (some false) else (if t588 = t576 then (some true) else (some false)))) = some r := by rw [if_neg (show ¬ (false = true) by decide)] at H; exact H
                        clear H
                        have H := H1
                        clear H1
                        replace H := Option.bind_eq_some_iff.mp H
                        obtain ⟨t588, A680, H⟩ := H
                        replace H : (if t588 < 0 then (some false) else (if t588 = t576 then (some true) else (some false))) = some r := H
                        have A68 := Aside0.mk A680
                        clear A680
                        by_cases c69 : t588 < 0
                        rotate_left
                        · rw [if_neg c69] at H
                          have c69b0 : decide (t588 < 0) = false := decide_eq_false c69
                          clear c69
                          by_cases c70 : t588 = t576
                          rotate_left
                          · rw [if_neg c70] at H
                            have c70b0 : (t588 == t576) = false := beq_eq_false_iff_ne.mpr c70
                            have c70b1 : (t588 != t576) = true := bne_iff_ne.mpr c70
                            exact absurd ((Option.some.inj H).trans HLAW.out) (by decide)
                          rw [if_pos c70] at H
                          have c70b0 : (t588 == t576) = true := beq_iff_eq.mpr c70
                          have c70b1 : (t588 != t576) = false := bne_eq_false_iff_eq.mpr c70
                          clear c70
                          obtain rfl := Option.some.inj H
                          go_wp2_with (first | ((with_reducible refine gate_callee (f := 29) rfl ?_); refine goesL_ (some 116) rfl rfl Try.func29 (by kernel_rfl) rfl #[.slice Ao53 t577.length co53, .int .i64 1] rfl (by (try simp only [List.map_toArray, List.map_cons, List.map_nil]); first | done | rfl | (simp only [List.length_drop, List.length_take]; rfl)) ?_; (with_reducible refine (laws_heldInt64S.calls kj51 _ _ t577 1 t588 _ ?side1 ?side2 A68.out).mono ?_); (case side1 => repeat (first | exact (Kd.R_reads' HO_10.out).2.2 | (with_reducible refine Kd.C_alloc ?_ _) | (with_reducible refine Kd.C_drewN ?_ _) | (with_reducible refine Kd.C_drew ?_))); (case side2 => exact (Kd.R_reads' HO_10.out).2.1); rintro e w' ⟨rfl, ⟨nd, rfl⟩⟩; refine ⟨_, rfl, ?_⟩))
                          go_ret
                          exact ⟨by first | rfl | (simp [errW_none, errW_some] <;> rfl) | (simp [*, errW_none, errW_some] <;> rfl), by repeat (first | (with_reducible first | exact HB.out | apply below_alloc | apply pw_below_drewN | apply below_drew1) | exact HB.out)⟩
                        rw [if_pos c69] at H
                        have c69b0 : decide (t588 < 0) = true := decide_eq_true c69
                        clear c69
                        exact absurd ((Option.some.inj H).trans HLAW.out) (by decide)
                      subst c67
                      have H1 : (some false) = some r := by rw [if_pos rfl] at H; exact H
                      clear H
                      have H := H1
                      clear H1
                      exact absurd ((Option.some.inj H).trans HLAW.out) (by decide)
                rw [if_pos c48] at H
                have c48b0 : decide (t578 < 0) = true := decide_eq_true c48
                clear c48
                exact absurd ((Option.some.inj H).trans HLAW.out) (by decide)
              subst c45
              have H1 : (some false) = some r := by rw [if_pos rfl] at H; exact H
              clear H
              have H := H1
              clear H1
              exact absurd ((Option.some.inj H).trans HLAW.out) (by decide)
        subst c25
        have H1 : (some false) = some r := by rw [if_pos rfl] at H; exact H
        clear H
        have H := H1
        clear H1
        exact absurd ((Option.some.inj H).trans HLAW.out) (by decide)
  rw [if_pos c4] at H
  have c4b0 : decide (t551 < 0) = true := decide_eq_true c4
  clear c4
  obtain rfl := Option.some.inj H
  go_enter Try.func8, Try.ntmps8
  go_wp2_with (first | ((with_reducible refine gate_callee (f := 16) rfl ?_); refine goesL_ (some 21) rfl rfl Try.func16 (by kernel_rfl) rfl #[.slice A0 l0.length c0, .int .i64 1048576] rfl (by (try simp only [List.map_toArray, List.map_cons, List.map_nil]); first | done | rfl | (simp only [List.length_drop, List.length_take]; rfl)) ?_; (with_reducible refine (laws_szStampS.calls _ _ l0 1048576 t551 _ ?side1 ?side2 A3.out).mono ?_); (case side1 => repeat (first | exact HR0.out | (with_reducible refine Kd.C_alloc ?_ _) | (with_reducible refine Kd.C_drewN ?_ _) | (with_reducible refine Kd.C_drew ?_))); (case side2 => exact HC0.out); rintro e w' ⟨rfl, ⟨nd, rfl⟩⟩; refine ⟨_, rfl, ?_⟩))
  go_ret
  exact ⟨by first | rfl | (simp [errW_none, errW_some] <;> rfl) | (simp [*, errW_none, errW_some] <;> rfl), by repeat (first | (with_reducible first | exact HB.out | apply below_alloc | apply pw_below_drewN | apply below_drew1) | exact HB.out)⟩
end Go.Proofs.Ytnhcdfikjfjkoaa.P

namespace Go.Proofs.Ytnhcdfikjfjkoaa.P
open Go.RowKit Go.Proofs.YtnhcdfikjfjkoaaW.PrintWords
/-- The pure statement of the law. -/
def laws_FnExactOverFrom.Pure : Prop := ∀ (x0 : List (S58)) (x1 : Int), (x0.length ≤ 9223372036854775807 ∧ ∀ x0_ ∈ x0, ((Lit.int .i16 x0_.f0).wf = true ∧ (Lit.int .i16 x0_.f1).wf = true)) → (Lit.int .i64 x1).wf = true → ∃ k, laws_FnExactOverFrom.f k x0 x1 = some true
end Go.Proofs.Ytnhcdfikjfjkoaa.P

namespace Go.Proofs.Ytnhcdfikjfjkoaa.Pure
open Go.RowKit Go.Proofs.Ytnhcdfikjfjkoaa.P Go.Proofs.YtnhcdfikjfjkoaaW.PrintWords Go.Proofs.YtnhcdfikjfjkoaaW.PrintLast
set_option linter.unusedVariables false
set_option linter.unusedSimpArgs false

theorem EvG {α : Type} {g : Nat → Option α} {r : α} (h : Ev g r) : ∃ K, ∀ k, K ≤ k → g k = some r := h
theorem EvI {α : Type} {g : Nat → Option α} {r : α} (K : Nat) (h : ∀ k, K ≤ k → g k = some r) : Ev g r := ⟨K, h⟩
theorem w64 {x : Int} (h0 : -9223372036854775808 ≤ x) (h1 : x ≤ 9223372036854775807) : wrap64 x = x := by
  unfold wrap64; omega
theorem wN (i : Nat) (h : i < 4611686018427387904) : wrap64 ((i : Int) + 1) = ((i + 1 : Nat) : Int) := by
  unfold wrap64; omega
theorem rdN (l : List Int) (i : Nat) : rd l (i : Int) = l.getD i 0 := rfl
theorem rd_at (l : List Int) (i : Int) (n : Nat) (h : i = n) : rd l i = l.getD n 0 := by subst h; rfl
theorem getD_eq (l : List Int) (i : Nat) (h : i < l.length) : l.getD i 0 = l[i] := by
  rw [List.getD_eq_getElem?_getD, List.getElem?_eq_getElem h]; rfl
theorem getD_mem (l : List Int) (i : Nat) (h : i < l.length) : l.getD i 0 ∈ l := by rw [getD_eq l i h]; exact List.getElem_mem h
theorem list_ext (a b : List Int) (hl : a.length = b.length) (h : ∀ j, j < b.length → a.getD j 0 = b.getD j 0) : a = b := by
  apply List.ext_getElem hl
  intro i h1 h2
  have := h i h2
  rwa [getD_eq a i h1, getD_eq b i h2] at this
theorem getD_set (l : List Int) (i j : Nat) (v : Int) (h : i < l.length) : (l.set i v).getD j 0 = if i = j then v else l.getD j 0 := by
  simp only [List.getD_eq_getElem?_getD, List.getElem?_set]
  by_cases e : i = j
  · subst e; simp [h]
  · simp [e]
theorem getD_rep (n j : Nat) (v : Int) (h : j < n) : (List.replicate n v).getD j 0 = v := by
  simp [List.getD_eq_getElem?_getD, List.getElem?_replicate, h]

end Go.Proofs.Ytnhcdfikjfjkoaa.Pure

namespace Go.Proofs.Ytnhcdfikjfjkoaa.Pure
open Go.RowKit Go.Proofs.Ytnhcdfikjfjkoaa.P Go.Proofs.YtnhcdfikjfjkoaaW.PrintWords Go.Proofs.YtnhcdfikjfjkoaaW.PrintLast
set_option linter.unusedVariables false
set_option linter.unusedSimpArgs false

theorem rdS (l : List S56) (i : Nat) : rd_T56 l (i : Int) = l.getD i z56 := rfl
theorem rdS' (l : List S58) (i : Nat) : rd_T58 l (i : Int) = l.getD i z58 := rfl
theorem getD_eqG {α : Type} (z : α) (l : List α) (i : Nat) (h : i < l.length) : l.getD i z = l[i] := by
  rw [List.getD_eq_getElem?_getD, List.getElem?_eq_getElem h]; rfl
theorem list_extG {α : Type} (z : α) (a b : List α) (hl : a.length = b.length) (h : ∀ j, j < b.length → a.getD j z = b.getD j z) : a = b := by
  apply List.ext_getElem hl
  intro i h1 h2
  have := h i h2
  rwa [getD_eqG z a i h1, getD_eqG z b i h2] at this
theorem getD_setG {α : Type} (z : α) (l : List α) (i j : Nat) (v : α) (h : i < l.length) : (l.set i v).getD j z = if i = j then v else l.getD j z := by
  simp only [List.getD_eq_getElem?_getD, List.getElem?_set]
  by_cases e : i = j
  · subst e; simp [h]
  · simp [e]
/-- A stock as the program has it. -/
def cv (x : S58) : S56 := ⟨x.f0, x.f1⟩
theorem szS (l : List S58) (a : Int) (h0 : 0 ≤ a) (h1 : a ≤ 1048576) (hl : l.length ≤ 9223372036854775807) : laws_szStampS.f l a = some (if (l.length : Int) ≤ a then a - l.length else -1) := by
  unfold laws_szStampS.f
  rw [w64 (by omega) (by omega)]
  split <;> split <;> first | rfl | omega
theorem toS_l0 (l : List S58) (hb : l.length ≤ 17592186044415) : ∀ d i (x : List S56), l.length - i = d → i ≤ l.length → x.length = l.length → (∀ j, j < i → x.getD j z56 = cv (l.getD j z58)) → Ev (fun k => laws_toStampS.l0 k l x (i : Int)) (l.map cv) := by
  intro d
  induction d with
  | zero =>
    intro i x hd hi hx hj
    refine Ev.step (f := fun _ => some x) (fun k => ?_) ?_
    · rw [laws_toStampS.l0, if_neg (by omega)]
    · have : x = l.map cv := list_extG z56 x _ (by rw [List.length_map, hx]) (fun j h => by
        rw [List.length_map] at h
        rw [hj j (by omega), getD_eqG z56 _ j (by rw [List.length_map]; exact h), List.getElem_map, getD_eqG z58 l j h])
      rw [this]; exact Ev.now _
  | succ d ih =>
    intro i x hd hi hx hj
    refine Ev.step (fun k => ?_) (ih (i + 1) (x.set i (cv (l.getD i z58))) (by omega) (by omega) (by simpa using hx) ?_)
    · rw [laws_toStampS.l0, if_pos (by omega), if_pos (by omega), laws_toStamp.f, Option.bind_some, if_pos (by omega), wN i (by omega), rdS', Int.toNat_natCast]
      rfl
    · intro j h
      rw [getD_setG z56 x i j _ (by omega)]
      by_cases e : i = j
      · rw [if_pos e, e]
      · rw [if_neg e]; exact hj j (by omega)
theorem toS (l : List S58) (hb : l.length ≤ 17592186044415) : Ev (fun k => laws_toStampS.f k l) (l.map cv) := by
  refine Ev.congr (f := fun k => laws_toStampS.l0 k l (List.replicate l.length z56) ((0 : Nat) : Int)) (fun k => ?_) (toS_l0 l hb _ 0 _ rfl (Nat.zero_le _) (by simp) (fun j h => absurd h (Nat.not_lt_zero _)))
  simp only [laws_toStampS.f, Int.toNat_natCast]
  rw [if_pos (by omega), if_pos (by omega)]; rfl
theorem eqS_l0 (l : List S56) (hb : l.length ≤ 17592186044415) : ∀ d i, l.length - i = d → i ≤ l.length → Ev (fun k => laws_eqStampS.l0 k l l (i : Int)) true := by
  intro d
  induction d with
  | zero =>
    intro i hd hi
    refine Ev.step (f := fun _ => some true) (fun k => ?_) (Ev.now _)
    rw [laws_eqStampS.l0, if_neg (by omega)]
  | succ d ih =>
    intro i hd hi
    refine Ev.step (fun k => ?_) (ih (i + 1) (by omega) (by omega))
    rw [laws_eqStampS.l0, if_pos (by omega), if_pos (by omega), if_pos (by omega), laws_eqStamp.f, if_pos rfl, if_pos rfl, Option.bind_some, if_pos rfl, wN i (by omega)]
theorem eqS (l : List S56) (hb : l.length ≤ 17592186044415) : Ev (fun k => laws_eqStampS.f k l l) true := by
  refine Ev.congr (f := fun k => laws_eqStampS.l0 k l l ((0 : Nat) : Int)) (fun k => ?_) (eqS_l0 l hb _ 0 rfl (Nat.zero_le _))
  rw [laws_eqStampS.f, if_pos rfl]; rfl

end Go.Proofs.Ytnhcdfikjfjkoaa.Pure

namespace Go.Proofs.Ytnhcdfikjfjkoaa.P
open Go.RowKit Go.Proofs.YtnhcdfikjfjkoaaW.PrintWords Go.Proofs.YtnhcdfikjfjkoaaW.PrintLast Go.Proofs.YtnhcdfikjfjkoaaW.PrintMore
attribute [local go_sem] max2_int min2_int max_two min_two max_three min_three max_four min_four   -- for this text's walks alone
set_option linter.unusedVariables false
set_option linter.unusedSimpArgs false

/-! ### laws_toInt64S: function 13 -/
def laws_toInt64S.l0 : Nat → List Int → List Int → Int → Option (List Int)
  | 0, _, _, _ => none
  | k + 1, x0, x3, x4 => if x4 < (x0.length : Int) then (if 0 ≤ x4 then (if x4 < (x3.length : Int) then (laws_toInt64S.l0 k x0 (x3.set (x4 : Int).toNat (rd x0 x4)) (wrap64 (x4 + 1))) else (none)) else (none)) else (some x3)
def laws_toInt64S.f (k : Nat) (l0 : List Int) : Option (List Int) := if 0 ≤ (l0.length : Int) then (if ((l0.length : Int) : Int).toNat ≤ 35184372088832 then (laws_toInt64S.l0 k l0 (List.replicate ((l0.length : Int) : Int).toNat 0) 0) else (none)) else (none)
theorem laws_toInt64S.mono_l : ∀ k, (∀ y0 y1 y2, LeO (laws_toInt64S.l0 k y0 y1 y2) (laws_toInt64S.l0 (k + 1) y0 y1 y2))
  | 0 => fun _ _ _ r h => by simp [laws_toInt64S.l0] at h
  | k + 1 => by
    have ih0 := laws_toInt64S.mono_l k
    · intro y0 y1 y2
      unfold laws_toInt64S.l0
      repeat' first
      | (with_reducible exact ih0 _ _ _)
      | (with_reducible exact LeO.refl _)
      | (with_reducible exact LeO.none _)
      | (with_reducible refine LeO.ite ?_ ?_)
      | (with_reducible refine LeO.bind ?_ (fun _ => ?_))
      | exact ih0 _ _ _
      | exact LeO.none _
      | refine LeO.ite ?_ ?_
      | refine LeO.bind ?_ (fun _ => ?_)
theorem laws_toInt64S.mono : ∀ a0 k, LeO (laws_toInt64S.f k a0) (laws_toInt64S.f (k + 1) a0) := by
  intro a0 k
  have ih0 := laws_toInt64S.mono_l k
  unfold laws_toInt64S.f
  repeat' first
      | (with_reducible exact ih0 _ _ _)
      | (with_reducible exact LeO.refl _)
      | (with_reducible exact LeO.none _)
      | (with_reducible refine LeO.ite ?_ ?_)
      | (with_reducible refine LeO.bind ?_ (fun _ => ?_))
      | exact ih0 _ _ _
      | exact LeO.none _
      | refine LeO.ite ?_ ?_
      | refine LeO.bind ?_ (fun _ => ?_)
set_option maxHeartbeats 8000000 in
set_option maxRecDepth 100000 in
theorem laws_toInt64S.calls (k : Nat) (A0 : Option Addr) (c0 : Nat) (l0 : List Int) (r : List Int) (w : World) (hr0 : Kd.C (Kd.int .i64) w A0 l0.length l0) (hc0 : l0.length ≤ c0) (h : laws_toInt64S.f k l0 = some r) :
    Calls Try.prog 13 #[.slice A0 l0.length c0] w fun e w' => ∃ v0_ : Value, e = .returned (v0_) ∧ Kd.R (Kd.int .i64) 2 w' w.heap.size (fun _ => True) v0_ r ∧ Below w.heap.size w w' := by
  have HR0 := Aside0.mk hr0
  have HC0 := Aside0.mk hc0
  clear hr0 hc0
  have HB := Aside0.mk (Below.refl w.heap.size w)
  have H : (if 0 ≤ (l0.length : Int) then (if ((l0.length : Int) : Int).toNat ≤ 35184372088832 then (laws_toInt64S.l0 k l0 (List.replicate ((l0.length : Int) : Int).toNat 0) 0) else (none)) else (none)) = some r := h
  clear h
  by_cases c2 : 0 ≤ (l0.length : Int)
  rotate_left
  · rw [if_neg c2] at H
    exact absurd H (by simp)

  rw [if_pos c2] at H
  have c2b0 := eq_true c2
  have c2b1 : decide (0 ≤ (l0.length : Int)) = true := decide_eq_true c2
  clear c2
  by_cases c3 : ((l0.length : Int) : Int).toNat ≤ 35184372088832
  rotate_left
  · rw [if_neg c3] at H
    exact absurd H (by simp)
  rw [if_pos c3] at H
  have c3b0 := eq_true c3
  have c3b1 : decide (((l0.length : Int) : Int).toNat ≤ 35184372088832) = true := decide_eq_true c3
  clear c3
  obtain ⟨y137, hy137⟩ : ∃ y_ : List Int, y_ = (List.replicate ((l0.length : Int) : Int).toNat 0) := ⟨_, rfl⟩
  replace H : (laws_toInt64S.l0 k l0 y137 0) = some r := by first | (rw [hy137]; with_reducible exact H) | (have H2_ := (Option.bind_some _ _).symm.trans H; rw [hy137]; with_reducible exact H2_) | (have H2_ := (Option.bind_some _ _).symm.trans H; with_reducible exact H2_) | with_reducible exact H | (rw [hy137]; exact H) | exact H
  have Ny137 := Aside0.mk hy137
  clear hy137
  have H' := Aside0.mk H
  clear H
  go_enter Try.func13, Try.ntmps13
  go_wp2_with (first | ((with_reducible refine gate_dst (N := 7) rfl ?_); refine Kd.R_make (Kd.int .i64) _ 2 rfl (N := 7) rfl 22 _ _ rfl (l0.length : Int) rfl rfl Try.underlying22 (.int .i64 0) 8 info2 rfl (by decide) (by omega) 0 (ok := fun _ => True) (okp := fun _ => True) rfl (fun _ hk => hk) trivial (of_decide_eq_true (by first | (with_reducible assumption) | assumption)) (Nat.le_trans (Nat.mul_le_mul_right _ (of_decide_eq_true (by first | (with_reducible assumption) | assumption) : (l0.length : Int).toNat ≤ 35184372088832)) (by omega)) (Below.refl _ _) (Nat.le_refl _) ?_; intro v138 w4 ho5 hb hg_ hnew_; clear hg_ hnew_; (first | rw [← Ny137.out] at ho5 | (simp only [Int.reduceToNat] at ho5; rw [← Ny137.out] at ho5)); have n0_ := Aside0.mk (Kd.R_lower ho5 (below_size (by repeat (first | (with_reducible first | exact HB.out | apply below_alloc | apply pw_below_drewN | apply below_drew1) | exact HB.out)))); have n1_ := Aside0.mk (below_step (by repeat (first | (with_reducible first | exact HB.out | apply below_alloc | apply pw_below_drewN | apply below_drew1) | exact HB.out)) hb); clear HB; have HO139 := n0_; have HB := n1_; clear n0_ n1_; clear hb ho5))
  go_loopg [4] k (fun kq v4 w' => ∃ (x3_1 : List Int) (x4_1 : Int), v4 = .int .i64 x4_1 ∧ Aside0 (laws_toInt64S.l0 kq l0 x3_1 x4_1 = some r) ∧ Aside0 (kq ≤ k) ∧ Aside0 (Kd.R (Kd.int .i64) 2 w' w.heap.size (fun _ => True) v138 x3_1) ∧ Aside0 (Below w.heap.size w w'))
  case atStart => exact ⟨(y137), (0), (by first | rfl | (simp; done) | (simp [*]; done)), H', ⟨Nat.le_refl _⟩, ⟨by (with_reducible repeat (first | apply Kd.R_alloc | apply Kd.R_drewN | apply Kd.R_drew)); exact HO139.out⟩, ⟨by repeat (first | (with_reducible first | exact HB.out | apply below_alloc | apply pw_below_drewN | apply below_drew1) | exact HB.out)⟩⟩
  case round =>
    clear H'
    try clear c1
    try clear c2
    try clear c2b0
    try clear c2b1
    try clear p2
    try clear c3
    try clear c3b0
    try clear c3b1
    obtain ⟨x3_1, x4_1, rfl, HA, HK1, HO_3, HB⟩ := hrel
    cases gk with
    | zero => exact absurd HA.out (by simp [laws_toInt64S.l0])
    | succ k1 =>
      have H := HA.out
      clear HA
      simp only [laws_toInt64S.l0] at H
      by_cases c6 : x4_1 < (l0.length : Int)
      rotate_left
      · rw [if_neg c6] at H
        have c6b0 : decide (x4_1 < (l0.length : Int)) = false := decide_eq_false c6
        clear c6
        obtain rfl := Option.some.inj H
        go_wp2
        go_ret
        exact ⟨_, by first | rfl | (simp [errW_none, errW_some] <;> rfl) | (simp [*, errW_none, errW_some] <;> rfl), by (with_reducible repeat (first | apply Kd.R_alloc | apply Kd.R_drewN | apply Kd.R_drew)); exact HO_3.out, by repeat (first | (with_reducible first | exact HB.out | apply below_alloc | apply pw_below_drewN | apply below_drew1) | exact HB.out)⟩
      rw [if_pos c6] at H
      have c6b0 : decide (x4_1 < (l0.length : Int)) = true := decide_eq_true c6
      clear c6
      by_cases c7 : 0 ≤ x4_1
      rotate_left
      · rw [if_neg c7] at H
        exact absurd H (by simp)
      rw [if_pos c7] at H
      have c7b0 : decide (0 ≤ x4_1) = true := decide_eq_true c7
      clear c7
      by_cases c8 : x4_1 < (x3_1.length : Int)
      rotate_left
      · rw [if_neg c8] at H
        exact absurd H (by simp)
      rw [if_pos c8] at H
      have c8b0 : decide (x4_1 < (x3_1.length : Int)) = true := decide_eq_true c8
      clear c8
      obtain ⟨y141, hy141⟩ : ∃ y_ : List Int, y_ = (x3_1.set (x4_1 : Int).toNat (rd l0 x4_1)) := ⟨_, rfl⟩
      replace H : (laws_toInt64S.l0 k1 l0 y141 (wrap64 (x4_1 + 1))) = some r := by first | (rw [hy141]; with_reducible exact H) | (have H2_ := (Option.bind_some _ _).symm.trans H; rw [hy141]; with_reducible exact H2_) | (have H2_ := (Option.bind_some _ _).symm.trans H; with_reducible exact H2_) | with_reducible exact H | (rw [hy141]; exact H) | exact H
      have Ny141 := Aside0.mk hy141
      clear hy141
      have H' := Aside0.mk H
      clear H
      have p140 : 0 ≤ (x4_1 : Int) := of_decide_eq_true (by first | (with_reducible assumption) | assumption)
      have q140 : x4_1 < (l0.length : Int) := of_decide_eq_true (by first | (with_reducible assumption) | assumption)
      obtain ⟨ad140, e140, hx140_0⟩ := Kd.at_int HR0.out x4_1 p140 q140
      cases e140
      replace hx140_0 := (HB.out.cell (World.block_lt_of_cell? w _ hx140_0)).trans hx140_0
      replace p140 := eq_true p140
      replace q140 := eq_true q140
      have p9 : 0 ≤ (x4_1 : Int) := of_decide_eq_true (by first | (with_reducible assumption) | assumption)
      have q9 : (x4_1 : Int) < ((x3_1.length : Int) : Int) := of_decide_eq_true (by first | (with_reducible assumption) | assumption)
      obtain ⟨go9, co9, eo9, gb9, gl9, cl9, HG9⟩ := Kd.R_form HO_3.out (by omega)
      (first | cases eo9 | (injection eo9 with ea_ en_ ec_; (first | subst ea_ | (injection ea_ with ea_; subst ea_)); subst ec_; clear en_))
      have GB9 := Aside0.mk gb9
      have GG9 := Aside0.mk HG9
      clear gb9 gl9 HG9
      obtain ⟨hx9_0, hf9_0⟩ := Kd.R_celln 0 HO_3.out (x4_1 : Int) p9 q9
      replace p9 := eq_true p9
      replace q9 := eq_true q9
      obtain ⟨hy10_, hz10_⟩ := Kd.R_celln 0 HO_3.out (x4_1 : Int) (of_decide_eq_true (by first | (with_reducible assumption) | assumption)) (of_decide_eq_true (by first | (with_reducible assumption) | assumption))
      have HP10 := Kd.R_putg HO_3.out (x4_1 : Int) (rd l0 x4_1)
      go_wp2_with (first | ((with_reducible refine gate_store (t := 2) (p := 20) rfl ?_); refine store_event (t := 2) (p := 20) (v := ?vo_w11) (w1 := (wr.setCell ⟨go9, (x4_1 : Int).toNat, none⟩ (.int .i64 (rd l0 x4_1)))) ?hg ?ho ?hn ?hr ?_; (case ho => rfl); (case hg => rfl); (case hn => rfl); (case hr => first | (go_simp; done) | (go_simp; rfl)); intro w11 hw; have hg : wr.grownBy w11 (some go9) := (by rw [hw]; exact HP10.2); have hp_ : Kd.R (Kd.int .i64) 2 w11 w.heap.size (fun _ => True) (.slice (some ⟨go9, 0, none⟩) x3_1.length co9) y141 := (by rw [hw, Ny141.out]; exact HP10.1); clear HP10; have n0_ := Aside0.mk (hp_); have n1_ := Aside0.mk ((by rw [hw]; exact below_set (HB.out) GB9.out : Below w.heap.size w w11)); clear HO_3; clear HB; have HO_3 := n0_; have HB := n1_; clear n0_ n1_; clear hg hw hp_))
      go_roundg k1
      case measure => have := HK1.out; omega
      case rel => exact ⟨(y141), (wrap64 (x4_1 + 1)), (by first | rfl | (simp; done) | (simp [*]; done)), H', ⟨by have := HK1.out; omega⟩, ⟨by (with_reducible repeat (first | apply Kd.R_alloc | apply Kd.R_drewN | apply Kd.R_drew)); exact HO_3.out⟩, ⟨by repeat (first | (with_reducible first | exact HB.out | apply below_alloc | apply pw_below_drewN | apply below_drew1) | exact HB.out)⟩⟩
end Go.Proofs.Ytnhcdfikjfjkoaa.P

namespace Go.Proofs.Ytnhcdfikjfjkoaa.Pure
open Go.RowKit Go.Proofs.Ytnhcdfikjfjkoaa.P Go.Proofs.YtnhcdfikjfjkoaaW.PrintWords Go.Proofs.YtnhcdfikjfjkoaaW.PrintLast
set_option linter.unusedVariables false
set_option linter.unusedSimpArgs false

theorem toI_l0 (l : List Int) (hb : l.length ≤ 17592186044415) : ∀ d i x, l.length - i = d → i ≤ l.length → x.length = l.length → (∀ j, j < i → x.getD j 0 = l.getD j 0) → Ev (fun k => laws_toInt64S.l0 k l x (i : Int)) l := by
  intro d
  induction d with
  | zero =>
    intro i x hd hi hx hj
    refine Ev.step (f := fun _ => some x) (fun k => ?_) ?_
    · rw [laws_toInt64S.l0, if_neg (by omega)]
    · have : x = l := list_ext x l hx (fun j h => hj j (by omega))
      rw [this]; exact Ev.now l
  | succ d ih =>
    intro i x hd hi hx hj
    refine Ev.step (fun k => ?_) (ih (i + 1) (x.set i (l.getD i 0)) (by omega) (by omega) (by simpa using hx) ?_)
    · rw [laws_toInt64S.l0, if_pos (by omega), if_pos (by omega), if_pos (by omega), wN i (by omega), rdN, Int.toNat_natCast]
    · intro j h
      rw [getD_set x i j _ (by omega)]
      by_cases e : i = j
      · rw [if_pos e, e]
      · rw [if_neg e]; exact hj j (by omega)
/-- A list is copied. -/
theorem toI (l : List Int) (hb : l.length ≤ 17592186044415) : Ev (fun k => laws_toInt64S.f k l) l := by
  refine Ev.congr (f := fun k => laws_toInt64S.l0 k l (List.replicate l.length 0) ((0 : Nat) : Int)) (fun k => ?_) (toI_l0 l hb _ 0 _ rfl (Nat.zero_le _) (by simp) (fun j h => absurd h (Nat.not_lt_zero _)))
  simp only [laws_toInt64S.f, Int.toNat_natCast]
  rw [if_pos (by omega), if_pos (by omega)]; rfl

theorem eqI_l0 (l : List Int) (hb : l.length ≤ 17592186044415) : ∀ d i, l.length - i = d → i ≤ l.length → Ev (fun k => laws_eqInt64S.l0 k l l (i : Int)) true := by
  intro d
  induction d with
  | zero =>
    intro i hd hi
    refine Ev.step (f := fun _ => some true) (fun k => ?_) (Ev.now true)
    rw [laws_eqInt64S.l0, if_neg (by omega)]
  | succ d ih =>
    intro i hd hi
    refine Ev.step (fun k => ?_) (ih (i + 1) (by omega) (by omega))
    rw [laws_eqInt64S.l0, if_pos (by omega), if_pos (by omega), if_pos (by omega), if_pos rfl, wN i (by omega)]
/-- A list is equal to itself. -/
theorem eqI (l : List Int) (hb : l.length ≤ 17592186044415) : Ev (fun k => laws_eqInt64S.f k l l) true := by
  refine Ev.congr (f := fun k => laws_eqInt64S.l0 k l l ((0 : Nat) : Int)) (fun k => ?_) (eqI_l0 l hb _ 0 rfl (Nat.zero_le _))
  simp only [laws_eqInt64S.f, if_true]; rfl

/-- The numbers from m on. -/
def iota (m : Nat) : Nat → List Int
  | 0 => []
  | n + 1 => (m : Int) :: iota (m + 1) n
theorem iota_len (m n : Nat) : (iota m n).length = n := by
  induction n generalizing m with
  | zero => rfl
  | succ n ih => simp [iota, ih]
theorem iota_at (m n j : Nat) (h : j < n) : (iota m n).getD j 0 = ((m + j : Nat) : Int) := by
  induction n generalizing m j with
  | zero => omega
  | succ n ih =>
    cases j with
    | zero => rfl
    | succ j =>
      have := ih (m + 1) j (by omega)
      simp only [iota, List.getD_cons_succ, this]
      omega

theorem markI_l0 (n m : Nat) (hb : n ≤ 17592186044415) (hm : m ≤ 17592186044415) : ∀ d i x, n - i = d → i ≤ n → x.length = n → (∀ j, j < i → x.getD j 0 = ((m + j : Nat) : Int)) →
    Ev (fun k => laws_markInt64S.l0 k x ((m + i : Nat) : Int) (i : Int)) (((m + n : Nat) : Int), iota m n) := by
  intro d
  induction d with
  | zero =>
    intro i x hd hi hx hj
    obtain rfl : i = n := by omega
    refine Ev.step (f := fun _ => some (((m + i : Nat) : Int), x)) (fun k => ?_) ?_
    · rw [laws_markInt64S.l0, if_neg (by omega)]
    · have : x = iota m i := list_ext x _ (by rw [iota_len]; exact hx) (fun j h => by rw [iota_len] at h; rw [hj j h, iota_at m i j h])
      rw [this]; exact Ev.now _
  | succ d ih =>
    intro i x hd hi hx hj
    refine Ev.step (fun k => ?_) (ih (i + 1) (x.set i ((m + i : Nat) : Int)) (by omega) (by omega) (by simpa using hx) ?_)
    · rw [laws_markInt64S.l0, if_pos (by omega), if_pos (by omega), wN i (by omega), wN (m + i) (by omega), Int.toNat_natCast]; rfl
    · intro j h
      rw [getD_set x i j _ (by omega)]
      by_cases e : i = j
      · rw [if_pos e, e]
      · rw [if_neg e]; exact hj j (by omega)
/-- A list is marked with the numbers from m on. -/
theorem markI (l : List Int) (m : Nat) (hb : l.length ≤ 17592186044415) (hm : m ≤ 17592186044415) : Ev (fun k => laws_markInt64S.f k l (m : Int)) (((m + l.length : Nat) : Int), iota m l.length) :=
  markI_l0 l.length m hb hm _ 0 l rfl (Nat.zero_le _) rfl (fun j h => absurd h (Nat.not_lt_zero _))

theorem heldI_l0 (n m : Nat) (hb : n ≤ 17592186044415) (hm : m ≤ 17592186044415) : ∀ d i, n - i = d → i ≤ n → Ev (fun k => laws_heldInt64S.l0 k (iota m n) ((m + i : Nat) : Int) (i : Int)) ((m + n : Nat) : Int) := by
  intro d
  induction d with
  | zero =>
    intro i hd hi
    obtain rfl : i = n := by omega
    refine Ev.step (f := fun _ => some (((m + i : Nat) : Int))) (fun k => ?_) (Ev.now _)
    rw [laws_heldInt64S.l0, iota_len, if_neg (by omega)]
  | succ d ih =>
    intro i hd hi
    refine Ev.step (fun k => ?_) (ih (i + 1) (by omega) (by omega))
    rw [laws_heldInt64S.l0, iota_len, if_pos (by omega), if_pos (by omega), rdN, iota_at m n i (by omega), if_pos rfl, wN i (by omega), wN (m + i) (by omega)]; rfl
/-- What was marked is found again. -/
theorem heldI (n m : Nat) (hb : n ≤ 17592186044415) (hm : m ≤ 17592186044415) : Ev (fun k => laws_heldInt64S.f k (iota m n) (m : Int)) ((m + n : Nat) : Int) :=
  heldI_l0 n m hb hm _ 0 rfl (Nat.zero_le _)

end Go.Proofs.Ytnhcdfikjfjkoaa.Pure

namespace Go.Proofs.Ytnhcdfikjfjkoaa.P
open Go.RowKit Go.Proofs.YtnhcdfikjfjkoaaW.PrintWords Go.Proofs.YtnhcdfikjfjkoaaW.PrintLast Go.Proofs.YtnhcdfikjfjkoaaW.PrintMore
attribute [local go_sem] max2_int min2_int max_two min_two max_three min_three max_four min_four   -- for this text's walks alone
set_option linter.unusedVariables false
set_option linter.unusedSimpArgs false

/-! ### impl_size_int64: function 85 -/
def impl_size_int64.f (l0 : List Int) : Option (Int) := some (l0.length : Int)
set_option maxHeartbeats 8000000 in
set_option maxRecDepth 100000 in
theorem impl_size_int64.calls (A0 : Option Addr) (c0 : Nat) (l0 : List Int) (r : Int) (w : World) (hr0 : Kd.C (Kd.int .i64) w A0 l0.length l0) (hc0 : l0.length ≤ c0) (h : impl_size_int64.f l0 = some r) :
    Calls Try.prog 85 #[.slice A0 l0.length c0] w fun e w' => e = .returned (.int .i64 r) ∧ Drawn0 w w' := by
  have HR0 := Aside0.mk hr0
  have HC0 := Aside0.mk hc0
  clear hr0 hc0
  have H : (some (l0.length : Int)) = some r := h
  clear h
  obtain rfl := Option.some.inj H
  go_enter Try.func85, Try.ntmps85
  go_wp2
  go_ret
  exact ⟨by first | rfl | (simp; done) | (simp [*]; done), by repeat (first | exact Drawn0.refl _ | apply Drawn0.step)⟩

end Go.Proofs.Ytnhcdfikjfjkoaa.P

namespace Go.Proofs.Ytnhcdfikjfjkoaa.P
open Go.RowKit Go.Proofs.YtnhcdfikjfjkoaaW.PrintWords Go.Proofs.YtnhcdfikjfjkoaaW.PrintLast Go.Proofs.YtnhcdfikjfjkoaaW.PrintMore
attribute [local go_sem] max2_int min2_int max_two min_two max_three min_three max_four min_four   -- for this text's walks alone
set_option linter.unusedVariables false
set_option linter.unusedSimpArgs false

/-! ### impl_ValidValues: function 75 -/
def impl_ValidValues.f (k : Nat) (l0 : List Int) : Option (Bool) := (impl_size_int64.f l0).bind fun t144 => ((impl_within.f t144 1 8).bind fun t145 => (if t145 = true then ((impl_areWithin.f l0 1 500).bind fun t146 => (if t146 = true then ((impl_isRising.f k l0).bind fun t147 => (some t147)) else (some false))) else (some false)))
theorem impl_ValidValues.mono : ∀ a0 k, LeO (impl_ValidValues.f k a0) (impl_ValidValues.f (k + 1) a0) := by
  intro a0 k
  unfold impl_ValidValues.f
  repeat' first
      | (with_reducible exact impl_isRising.mono _ _)
      | (with_reducible exact LeO.refl _)
      | (with_reducible exact LeO.none _)
      | (with_reducible refine LeO.ite ?_ ?_)
      | (with_reducible refine LeO.bind ?_ (fun _ => ?_))
      | exact impl_isRising.mono _ _
      | exact LeO.none _
      | refine LeO.ite ?_ ?_
      | refine LeO.bind ?_ (fun _ => ?_)
set_option maxHeartbeats 8000000 in
set_option maxRecDepth 100000 in
theorem impl_ValidValues.calls (k : Nat) (A0 : Option Addr) (c0 : Nat) (l0 : List Int) (r : Bool) (w : World) (hr0 : Kd.C (Kd.int .i64) w A0 l0.length l0) (hc0 : l0.length ≤ c0) (h : impl_ValidValues.f k l0 = some r) :
    Calls Try.prog 75 #[.slice A0 l0.length c0] w fun e w' => e = .returned (.bool r) ∧ Below w.heap.size w w' := by
  have HR0 := Aside0.mk hr0
  have HC0 := Aside0.mk hc0
  clear hr0 hc0
  have HB := Aside0.mk (Below.refl w.heap.size w)
  have H : ((impl_size_int64.f l0).bind fun t144 => ((impl_within.f t144 1 8).bind fun t145 => (if t145 = true then ((impl_areWithin.f l0 1 500).bind fun t146 => (if t146 = true then ((impl_isRising.f k l0).bind fun t147 => (some t147)) else (some false))) else (some false)))) = some r := h
  clear h
  replace H := Option.bind_eq_some_iff.mp H
  obtain ⟨t144, A20, H⟩ := H
  replace H : ((impl_within.f t144 1 8).bind fun t145 => (if t145 = true then ((impl_areWithin.f l0 1 500).bind fun t146 => (if t146 = true then ((impl_isRising.f k l0).bind fun t147 => (some t147)) else (some false))) else (some false))) = some r := H
  have A2 := Aside0.mk A20
  clear A20
  replace H := Option.bind_eq_some_iff.mp H
  obtain ⟨t145, A30, H⟩ := H
  replace H : (if t145 = true then ((impl_areWithin.f l0 1 500).bind fun t146 => (if t146 = true then ((impl_isRising.f k l0).bind fun t147 => (some t147)) else (some false))) else (some false)) = some r := H
  have A3 := Aside0.mk A30
  clear A30
  by_cases c4 : t145 = true
  rotate_left
  · replace c4 := Bool.eq_false_iff.mpr c4
    subst c4
    have H1 : (some false) = some r := by rw [if_neg (show ¬ (false = true) by decide)] at H; exact H
    clear H
    have H := H1
    clear H1
    obtain rfl := Option.some.inj H
    go_enter Try.func75, Try.ntmps75
    go_wp2_with (first | ((with_reducible refine gate_callee (f := 85) rfl ?_); refine goesL_ (some 4) rfl rfl Try.func85 (by kernel_rfl) rfl #[.slice A0 l0.length c0] rfl (by (try simp only [List.map_toArray, List.map_cons, List.map_nil]); first | done | rfl | (simp only [List.length_drop, List.length_take]; rfl)) ?_; (with_reducible refine (impl_size_int64.calls _ _ l0 t144 _ ?side1 ?side2 A2.out).mono ?_); (case side1 => repeat (first | exact HR0.out | (with_reducible refine Kd.C_alloc ?_ _) | (with_reducible refine Kd.C_drewN ?_ _) | (with_reducible refine Kd.C_drew ?_))); (case side2 => exact HC0.out); rintro e w' ⟨rfl, ⟨nd, rfl⟩⟩; refine ⟨_, rfl, ?_⟩) | ((with_reducible refine gate_callee (f := 77) rfl ?_); refine goesL_ (some 5) rfl rfl Try.func77 (by kernel_rfl) rfl #[.int .i64 t144, .int .i64 1, .int .i64 8] rfl (by (try simp only [List.map_toArray, List.map_cons, List.map_nil]); first | done | rfl | (simp only [List.length_drop, List.length_take]; rfl)) ?_; (with_reducible refine (impl_within.calls t144 1 8 false _ A3.out).mono ?_); rintro e w' ⟨rfl, ⟨nd, rfl⟩⟩; refine ⟨_, rfl, ?_⟩))
    go_ret
    exact ⟨by first | rfl | (simp [errW_none, errW_some] <;> rfl) | (simp [*, errW_none, errW_some] <;> rfl), by repeat (first | (with_reducible first | exact HB.out | apply below_alloc | apply pw_below_drewN | apply below_drew1) | exact HB.out)⟩

  subst c4
  have H1 : ((impl_areWithin.f l0 1 500).bind fun t146 => (if t146 = true then ((impl_isRising.f k l0).bind fun t147 => (some t147)) else (some false))) = some r := by rw [if_pos rfl] at H; exact H
  clear H
  have H := H1
  clear H1
  replace H := Option.bind_eq_some_iff.mp H
  obtain ⟨t146, A50, H⟩ := H
  replace H : (if t146 = true then ((impl_isRising.f k l0).bind fun t147 => (some t147)) else (some false)) = some r := H
  have A5 := Aside0.mk A50
  clear A50
  by_cases c6 : t146 = true
  rotate_left
  · replace c6 := Bool.eq_false_iff.mpr c6
    subst c6
    have H1 : (some false) = some r := by rw [if_neg (show ¬ (false = true) by decide)] at H; exact H
    clear H
    have H := H1
    clear H1
    obtain rfl := Option.some.inj H
    go_enter Try.func75, Try.ntmps75
    go_wp2_with (first | ((with_reducible refine gate_callee (f := 85) rfl ?_); refine goesL_ (some 4) rfl rfl Try.func85 (by kernel_rfl) rfl #[.slice A0 l0.length c0] rfl (by (try simp only [List.map_toArray, List.map_cons, List.map_nil]); first | done | rfl | (simp only [List.length_drop, List.length_take]; rfl)) ?_; (with_reducible refine (impl_size_int64.calls _ _ l0 t144 _ ?side1 ?side2 A2.out).mono ?_); (case side1 => repeat (first | exact HR0.out | (with_reducible refine Kd.C_alloc ?_ _) | (with_reducible refine Kd.C_drewN ?_ _) | (with_reducible refine Kd.C_drew ?_))); (case side2 => exact HC0.out); rintro e w' ⟨rfl, ⟨nd, rfl⟩⟩; refine ⟨_, rfl, ?_⟩) | ((with_reducible refine gate_callee (f := 77) rfl ?_); refine goesL_ (some 5) rfl rfl Try.func77 (by kernel_rfl) rfl #[.int .i64 t144, .int .i64 1, .int .i64 8] rfl (by (try simp only [List.map_toArray, List.map_cons, List.map_nil]); first | done | rfl | (simp only [List.length_drop, List.length_take]; rfl)) ?_; (with_reducible refine (impl_within.calls t144 1 8 true _ A3.out).mono ?_); rintro e w' ⟨rfl, ⟨nd, rfl⟩⟩; refine ⟨_, rfl, ?_⟩) | (go_at_call 50; (with_reducible refine (impl_areWithin.calls _ _ l0 1 500 false _ ?side1 ?side2 A5.out).mono ?_); (case side1 => repeat (first | exact HR0.out | (with_reducible refine Kd.C_alloc ?_ _) | (with_reducible refine Kd.C_drewN ?_ _) | (with_reducible refine Kd.C_drew ?_))); (case side2 => exact HC0.out); rintro e w9 ⟨rfl, hb⟩; have n0_ := Aside0.mk (below_step (by repeat (first | (with_reducible first | exact HB.out | apply below_alloc | apply pw_below_drewN | apply below_drew1) | exact HB.out)) hb); clear HB; have HB := n0_; clear n0_; (try clear hb); (try clear hb2); (try clear hk); (try clear hi)))
    go_ret
    exact ⟨by first | rfl | (simp [errW_none, errW_some] <;> rfl) | (simp [*, errW_none, errW_some] <;> rfl), by repeat (first | (with_reducible first | exact HB.out | apply below_alloc | apply pw_below_drewN | apply below_drew1) | exact HB.out)⟩
  subst c6
  have H1 : ((impl_isRising.f k l0).bind fun t147 => (some t147)) = some r := by rw [if_pos rfl] at H; exact H
  clear H
  have H := H1
  clear H1
  replace H := Option.bind_eq_some_iff.mp H
  obtain ⟨t147, A70, H⟩ := H
  replace H : (some t147) = some r := H
  have A7 := Aside0.mk A70
  clear A70
  obtain rfl := Option.some.inj H
  go_enter Try.func75, Try.ntmps75
  go_wp2_with (first | ((with_reducible refine gate_callee (f := 85) rfl ?_); refine goesL_ (some 4) rfl rfl Try.func85 (by kernel_rfl) rfl #[.slice A0 l0.length c0] rfl (by (try simp only [List.map_toArray, List.map_cons, List.map_nil]); first | done | rfl | (simp only [List.length_drop, List.length_take]; rfl)) ?_; (with_reducible refine (impl_size_int64.calls _ _ l0 t144 _ ?side1 ?side2 A2.out).mono ?_); (case side1 => repeat (first | exact HR0.out | (with_reducible refine Kd.C_alloc ?_ _) | (with_reducible refine Kd.C_drewN ?_ _) | (with_reducible refine Kd.C_drew ?_))); (case side2 => exact HC0.out); rintro e w' ⟨rfl, ⟨nd, rfl⟩⟩; refine ⟨_, rfl, ?_⟩) | ((with_reducible refine gate_callee (f := 77) rfl ?_); refine goesL_ (some 5) rfl rfl Try.func77 (by kernel_rfl) rfl #[.int .i64 t144, .int .i64 1, .int .i64 8] rfl (by (try simp only [List.map_toArray, List.map_cons, List.map_nil]); first | done | rfl | (simp only [List.length_drop, List.length_take]; rfl)) ?_; (with_reducible refine (impl_within.calls t144 1 8 true _ A3.out).mono ?_); rintro e w' ⟨rfl, ⟨nd, rfl⟩⟩; refine ⟨_, rfl, ?_⟩) | (go_at_call 50; (with_reducible refine (impl_areWithin.calls _ _ l0 1 500 true _ ?side1 ?side2 A5.out).mono ?_); (case side1 => repeat (first | exact HR0.out | (with_reducible refine Kd.C_alloc ?_ _) | (with_reducible refine Kd.C_drewN ?_ _) | (with_reducible refine Kd.C_drew ?_))); (case side2 => exact HC0.out); rintro e w8 ⟨rfl, hb⟩; have n0_ := Aside0.mk (below_step (by repeat (first | (with_reducible first | exact HB.out | apply below_alloc | apply pw_below_drewN | apply below_drew1) | exact HB.out)) hb); clear HB; have HB := n0_; clear n0_; (try clear hb); (try clear hb2); (try clear hk); (try clear hi)) | (go_at_call 51; (with_reducible refine (impl_isRising.calls k _ _ l0 t147 _ ?side1 ?side2 A7.out).mono ?_); (case side1 => repeat (first | exact (Kd.C_below HR0.out HB.out) | (with_reducible refine Kd.C_alloc ?_ _) | (with_reducible refine Kd.C_drewN ?_ _) | (with_reducible refine Kd.C_drew ?_))); (case side2 => exact HC0.out); rintro e w' ⟨rfl, ⟨nd, rfl⟩⟩))
  go_ret
  exact ⟨by first | rfl | (simp [errW_none, errW_some] <;> rfl) | (simp [*, errW_none, errW_some] <;> rfl), by repeat (first | (with_reducible first | exact HB.out | apply below_alloc | apply pw_below_drewN | apply below_drew1) | exact HB.out)⟩
end Go.Proofs.Ytnhcdfikjfjkoaa.P

namespace Go.Proofs.Ytnhcdfikjfjkoaa.P
open Go.RowKit Go.Proofs.YtnhcdfikjfjkoaaW.PrintWords Go.Proofs.YtnhcdfikjfjkoaaW.PrintLast Go.Proofs.YtnhcdfikjfjkoaaW.PrintMore
attribute [local go_sem] max2_int min2_int max_two min_two max_three min_three max_four min_four   -- for this text's walks alone
set_option linter.unusedVariables false
set_option linter.unusedSimpArgs false

/-! ### impl_valuesCode: function 43 -/
def impl_valuesCode.f (k : Nat) (l0 : List Int) (a1 : Int) (a2 : Int) : Option (Int) := (impl_ValidValues.f k l0).bind fun t148 => (if t148 = true then ((impl_within.f a1 0 a2).bind fun t149 => ((impl_unless.f t149 2).bind fun t150 => (some t150))) else (some 1))
theorem impl_valuesCode.mono : ∀ a0 a1 a2 k, LeO (impl_valuesCode.f k a0 a1 a2) (impl_valuesCode.f (k + 1) a0 a1 a2) := by
  intro a0 a1 a2 k
  unfold impl_valuesCode.f
  repeat' first
      | (with_reducible exact impl_ValidValues.mono _ _)
      | (with_reducible exact LeO.refl _)
      | (with_reducible exact LeO.none _)
      | (with_reducible refine LeO.ite ?_ ?_)
      | (with_reducible refine LeO.bind ?_ (fun _ => ?_))
      | exact impl_ValidValues.mono _ _
      | exact LeO.none _
      | refine LeO.ite ?_ ?_
      | refine LeO.bind ?_ (fun _ => ?_)
set_option maxHeartbeats 8000000 in
set_option maxRecDepth 100000 in
theorem impl_valuesCode.calls (k : Nat) (A0 : Option Addr) (c0 : Nat) (l0 : List Int) (a1 : Int) (a2 : Int) (r : Int) (w : World) (hr0 : Kd.C (Kd.int .i64) w A0 l0.length l0) (hc0 : l0.length ≤ c0) (h : impl_valuesCode.f k l0 a1 a2 = some r) :
    Calls Try.prog 43 #[.slice A0 l0.length c0, .int .i64 a1, .int .i64 a2] w fun e w' => e = .returned (.int .i64 r) ∧ Below w.heap.size w w' := by
  have HR0 := Aside0.mk hr0
  have HC0 := Aside0.mk hc0
  clear hr0 hc0
  have HB := Aside0.mk (Below.refl w.heap.size w)
  have H : ((impl_ValidValues.f k l0).bind fun t148 => (if t148 = true then ((impl_within.f a1 0 a2).bind fun t149 => ((impl_unless.f t149 2).bind fun t150 => (some t150))) else (some 1))) = some r := h
  clear h
  replace H := Option.bind_eq_some_iff.mp H
  obtain ⟨t148, A40, H⟩ := H
  replace H : (if t148 = true then ((impl_within.f a1 0 a2).bind fun t149 => ((impl_unless.f t149 2).bind fun t150 => (some t150))) else (some 1)) = some r := H
  have A4 := Aside0.mk A40
  clear A40
  by_cases c5 : t148 = true
  rotate_left
  · replace c5 := Bool.eq_false_iff.mpr c5
    subst c5
    have H1 : (some 1) = some r := by rw [if_neg (show ¬ (false = true) by decide)] at H; exact H
    clear H
    have H := H1
    clear H1
    obtain rfl := Option.some.inj H
    go_enter Try.func43, Try.ntmps43
    go_wp2_with (first | ((with_reducible refine gate_callee (f := 75) rfl ?_); refine goesL_ (some 8) rfl rfl Try.func75 (by kernel_rfl) rfl #[.slice A0 l0.length c0] rfl (by (try simp only [List.map_toArray, List.map_cons, List.map_nil]); first | done | rfl | (simp only [List.length_drop, List.length_take]; rfl)) ?_; (with_reducible refine (impl_ValidValues.calls k _ _ l0 false _ ?side1 ?side2 A4.out).mono ?_); (case side1 => repeat (first | exact HR0.out | (with_reducible refine Kd.C_alloc ?_ _) | (with_reducible refine Kd.C_drewN ?_ _) | (with_reducible refine Kd.C_drew ?_))); (case side2 => exact HC0.out); rintro e w9 ⟨rfl, hb⟩; refine ⟨_, rfl, ?_⟩; have n0_ := Aside0.mk (below_step (by repeat (first | (with_reducible first | exact HB.out | apply below_alloc | apply pw_below_drewN | apply below_drew1) | exact HB.out)) hb); clear HB; have HB := n0_; clear n0_; (try clear hb); (try clear hb2); (try clear hk); (try clear hi)))
    go_ret
    exact ⟨by first | rfl | (simp [errW_none, errW_some] <;> rfl) | (simp [*, errW_none, errW_some] <;> rfl), by repeat (first | (with_reducible first | exact HB.out | apply below_alloc | apply pw_below_drewN | apply below_drew1) | exact HB.out)⟩

  subst c5
  have H1 : ((impl_within.f a1 0 a2).bind fun t149 => ((impl_unless.f t149 2).bind fun t150 => (some t150))) = some r := by rw [if_pos rfl] at H; exact H
  clear H
  have H := H1
  clear H1
  replace H := Option.bind_eq_some_iff.mp H
  obtain ⟨t149, A60, H⟩ := H
  replace H : ((impl_unless.f t149 2).bind fun t150 => (some t150)) = some r := H
  have A6 := Aside0.mk A60
  clear A60
  replace H := Option.bind_eq_some_iff.mp H
  obtain ⟨t150, A70, H⟩ := H
  replace H : (some t150) = some r := H
  have A7 := Aside0.mk A70
  clear A70
  obtain rfl := Option.some.inj H
  go_enter Try.func43, Try.ntmps43
  go_wp2_with (first | ((with_reducible refine gate_callee (f := 75) rfl ?_); refine goesL_ (some 8) rfl rfl Try.func75 (by kernel_rfl) rfl #[.slice A0 l0.length c0] rfl (by (try simp only [List.map_toArray, List.map_cons, List.map_nil]); first | done | rfl | (simp only [List.length_drop, List.length_take]; rfl)) ?_; (with_reducible refine (impl_ValidValues.calls k _ _ l0 true _ ?side1 ?side2 A4.out).mono ?_); (case side1 => repeat (first | exact HR0.out | (with_reducible refine Kd.C_alloc ?_ _) | (with_reducible refine Kd.C_drewN ?_ _) | (with_reducible refine Kd.C_drew ?_))); (case side2 => exact HC0.out); rintro e w8 ⟨rfl, hb⟩; refine ⟨_, rfl, ?_⟩; have n0_ := Aside0.mk (below_step (by repeat (first | (with_reducible first | exact HB.out | apply below_alloc | apply pw_below_drewN | apply below_drew1) | exact HB.out)) hb); clear HB; have HB := n0_; clear n0_; (try clear hb); (try clear hb2); (try clear hk); (try clear hi)) | ((with_reducible refine gate_callee (f := 77) rfl ?_); refine goesL_ (some 12) rfl rfl Try.func77 (by kernel_rfl) rfl #[.int .i64 a1, .int .i64 0, .int .i64 a2] rfl (by (try simp only [List.map_toArray, List.map_cons, List.map_nil]); first | done | rfl | (simp only [List.length_drop, List.length_take]; rfl)) ?_; (with_reducible refine (impl_within.calls a1 0 a2 t149 _ A6.out).mono ?_); rintro e w' ⟨rfl, ⟨nd, rfl⟩⟩; refine ⟨_, rfl, ?_⟩) | ((with_reducible refine gate_callee (f := 76) rfl ?_); refine goesL_ (some 13) rfl rfl Try.func76 (by kernel_rfl) rfl #[.bool t149, .int .i64 2] rfl (by (try simp only [List.map_toArray, List.map_cons, List.map_nil]); first | done | rfl | (simp only [List.length_drop, List.length_take]; rfl)) ?_; (with_reducible refine (impl_unless.calls t149 2 t150 _ A7.out).mono ?_); rintro e w' ⟨rfl, ⟨nd, rfl⟩⟩; refine ⟨_, rfl, ?_⟩))
  go_ret
  exact ⟨by first | rfl | (simp [errW_none, errW_some] <;> rfl) | (simp [*, errW_none, errW_some] <;> rfl), by repeat (first | (with_reducible first | exact HB.out | apply below_alloc | apply pw_below_drewN | apply below_drew1) | exact HB.out)⟩
end Go.Proofs.Ytnhcdfikjfjkoaa.P

namespace Go.Proofs.Ytnhcdfikjfjkoaa.P
open Go.RowKit Go.Proofs.YtnhcdfikjfjkoaaW.PrintWords Go.Proofs.YtnhcdfikjfjkoaaW.PrintLast Go.Proofs.YtnhcdfikjfjkoaaW.PrintMore
attribute [local go_sem] max2_int min2_int max_two min_two max_three min_three max_four min_four   -- for this text's walks alone
set_option linter.unusedVariables false
set_option linter.unusedSimpArgs false

/-! ### spec_l01Values: function 73 -/
def spec_l01Values.l0 : Nat → List Int → Int → Option (Bool)
  | 0, _, _ => none
  | k + 1, x0, x3 => if x3 < (x0.length : Int) then (if 0 ≤ x3 then ((spec_l00In.f (rd x0 x3) 1 500).bind fun t102 => (if t102 = true then (if x3 > 0 then (if 0 ≤ (wrap64 (x3 - 1)) then (if (wrap64 (x3 - 1)) < (x0.length : Int) then (if (rd x0 x3) ≤ (rd x0 (wrap64 (x3 - 1))) then (some false) else (spec_l01Values.l0 k x0 (wrap64 (x3 + 1)))) else (none)) else (none)) else (spec_l01Values.l0 k x0 (wrap64 (x3 + 1)))) else (some false))) else (none)) else ((spec_l00In.f (x0.length : Int) 1 8).bind fun t105 => (some t105))
def spec_l01Values.f (k : Nat) (l0 : List Int) : Option (Bool) := spec_l01Values.l0 k l0 0
theorem spec_l01Values.mono_l : ∀ k, (∀ y0 y1, LeO (spec_l01Values.l0 k y0 y1) (spec_l01Values.l0 (k + 1) y0 y1))
  | 0 => fun _ _ r h => by simp [spec_l01Values.l0] at h
  | k + 1 => by
    have ih0 := spec_l01Values.mono_l k
    · intro y0 y1
      unfold spec_l01Values.l0
      repeat' first
      | (with_reducible exact ih0 _ _)
      | (with_reducible exact LeO.refl _)
      | (with_reducible exact LeO.none _)
      | (with_reducible refine LeO.ite ?_ ?_)
      | (with_reducible refine LeO.bind ?_ (fun _ => ?_))
      | exact ih0 _ _
      | exact LeO.none _
      | refine LeO.ite ?_ ?_
      | refine LeO.bind ?_ (fun _ => ?_)
theorem spec_l01Values.mono : ∀ a0 k, LeO (spec_l01Values.f k a0) (spec_l01Values.f (k + 1) a0) := by
  intro a0 k
  have ih0 := spec_l01Values.mono_l k
  unfold spec_l01Values.f
  repeat' first
      | (with_reducible exact ih0 _ _)
      | (with_reducible exact LeO.refl _)
      | (with_reducible exact LeO.none _)
      | (with_reducible refine LeO.ite ?_ ?_)
      | (with_reducible refine LeO.bind ?_ (fun _ => ?_))
      | exact ih0 _ _
      | exact LeO.none _
      | refine LeO.ite ?_ ?_
      | refine LeO.bind ?_ (fun _ => ?_)
set_option maxHeartbeats 8000000 in
set_option maxRecDepth 100000 in
theorem spec_l01Values.calls (k : Nat) (A0 : Option Addr) (c0 : Nat) (l0 : List Int) (r : Bool) (w : World) (hr0 : Kd.C (Kd.int .i64) w A0 l0.length l0) (hc0 : l0.length ≤ c0) (h : spec_l01Values.f k l0 = some r) :
    Calls Try.prog 73 #[.slice A0 l0.length c0] w fun e w' => e = .returned (.bool r) ∧ Drawn0 w w' := by
  have HR0 := Aside0.mk hr0
  have HC0 := Aside0.mk hc0
  clear hr0 hc0
  have H : (spec_l01Values.l0 k l0 0) = some r := h
  clear h
  have H' := Aside0.mk H
  clear H
  go_enter Try.func73, Try.ntmps73
  go_wp2
  repeat (go_quiet (fail); try go_wp2)
  go_loopg [3] k (fun kq v3 w' => ∃ (x3_1 : Int), v3 = .int .i64 x3_1 ∧ Aside0 (spec_l01Values.l0 kq l0 x3_1 = some r) ∧ Aside0 (kq ≤ k) ∧ Drawn0 w w')
  case atStart => exact ⟨(0), (by first | rfl | (simp; done) | (simp [*]; done)), H', ⟨Nat.le_refl _⟩, by repeat (first | exact Drawn0.refl _ | apply Drawn0.step)⟩
  case round =>
    clear H'
    obtain ⟨x3_1, rfl, HA, HK1, ⟨m1, rfl⟩⟩ := hrel
    cases gk with
    | zero => exact absurd HA.out (by simp [spec_l01Values.l0])
    | succ k1 =>
      have H := HA.out
      clear HA
      simp only [spec_l01Values.l0] at H
      by_cases c2 : x3_1 < (l0.length : Int)
      rotate_left
      · rw [if_neg c2] at H
        have c2b0 : decide (x3_1 < (l0.length : Int)) = false := decide_eq_false c2
        clear c2
        replace H := Option.bind_eq_some_iff.mp H
        obtain ⟨t105, A110, H⟩ := H
        replace H : (some t105) = some r := H
        have A11 := Aside0.mk A110
        clear A110
        obtain rfl := Option.some.inj H
        go_wp2_with (first | (go_at_call 74; (with_reducible refine (spec_l00In.calls (l0.length : Int) 1 8 t105 _ A11.out).mono ?_); rintro e w' ⟨rfl, ⟨nd, rfl⟩⟩; (try first | exact ⟨rfl, _, World.drewN_drewN _ _ _⟩ | exact ⟨rfl, _, Eq.trans (World.drewN_drewN _ _ _) (congrArg (World.drewN _) (Nat.add_assoc _ _ _))⟩)))
        repeat (go_quiet (first | (go_at_call 74; (with_reducible refine (spec_l00In.calls (l0.length : Int) 1 8 t105 _ A11.out).mono ?_); rintro e w' ⟨rfl, ⟨nd, rfl⟩⟩; (try first | exact ⟨rfl, _, World.drewN_drewN _ _ _⟩ | exact ⟨rfl, _, Eq.trans (World.drewN_drewN _ _ _) (congrArg (World.drewN _) (Nat.add_assoc _ _ _))⟩))); try go_wp2_with (first | (go_at_call 74; (with_reducible refine (spec_l00In.calls (l0.length : Int) 1 8 t105 _ A11.out).mono ?_); rintro e w' ⟨rfl, ⟨nd, rfl⟩⟩; (try first | exact ⟨rfl, _, World.drewN_drewN _ _ _⟩ | exact ⟨rfl, _, Eq.trans (World.drewN_drewN _ _ _) (congrArg (World.drewN _) (Nat.add_assoc _ _ _))⟩))))
        go_ret
        exact ⟨by first | rfl | (simp; done) | (simp [*]; done), by repeat (first | exact Drawn0.refl _ | apply Drawn0.step)⟩

      rw [if_pos c2] at H
      have c2b0 : decide (x3_1 < (l0.length : Int)) = true := decide_eq_true c2
      clear c2
      by_cases c3 : 0 ≤ x3_1
      rotate_left
      · rw [if_neg c3] at H
        exact absurd H (by simp)
      rw [if_pos c3] at H
      have c3b0 : decide (0 ≤ x3_1) = true := decide_eq_true c3
      clear c3
      replace H := Option.bind_eq_some_iff.mp H
      obtain ⟨t102, A40, H⟩ := H
      replace H : (if t102 = true then (if x3_1 > 0 then (if 0 ≤ (wrap64 (x3_1 - 1)) then (if (wrap64 (x3_1 - 1)) < (l0.length : Int) then (if (rd l0 x3_1) ≤ (rd l0 (wrap64 (x3_1 - 1))) then (some false) else (spec_l01Values.l0 k1 l0 (wrap64 (x3_1 + 1)))) else (none)) else (none)) else (spec_l01Values.l0 k1 l0 (wrap64 (x3_1 + 1)))) else (some false)) = some r := H
      have A4 := Aside0.mk A40
      clear A40
      by_cases c5 : t102 = true
      rotate_left
      · replace c5 := Bool.eq_false_iff.mpr c5
        subst c5
        have H1 : (some false) = some r := by rw [if_neg (show ¬ (false = true) by decide)] at H; exact H
        clear H
        have H := H1
        clear H1
        obtain rfl := Option.some.inj H
        have p101 : 0 ≤ (x3_1 : Int) := of_decide_eq_true (by first | (with_reducible assumption) | assumption)
        have q101 : x3_1 < (l0.length : Int) := of_decide_eq_true (by first | (with_reducible assumption) | assumption)
        obtain ⟨ad101, e101, hx101_0⟩ := Kd.at_int HR0.out x3_1 p101 q101
        cases e101
        replace p101 := eq_true p101
        replace q101 := eq_true q101
        go_wp2_with (first | (go_at_call 74; (with_reducible refine (spec_l00In.calls (rd l0 x3_1) 1 500 false _ A4.out).mono ?_); rintro e w' ⟨rfl, ⟨nd, rfl⟩⟩; (try first | exact ⟨rfl, _, World.drewN_drewN _ _ _⟩ | exact ⟨rfl, _, Eq.trans (World.drewN_drewN _ _ _) (congrArg (World.drewN _) (Nat.add_assoc _ _ _))⟩)))
        repeat (go_quiet (first | (go_at_call 74; (with_reducible refine (spec_l00In.calls (rd l0 x3_1) 1 500 false _ A4.out).mono ?_); rintro e w' ⟨rfl, ⟨nd, rfl⟩⟩; (try first | exact ⟨rfl, _, World.drewN_drewN _ _ _⟩ | exact ⟨rfl, _, Eq.trans (World.drewN_drewN _ _ _) (congrArg (World.drewN _) (Nat.add_assoc _ _ _))⟩))); try go_wp2_with (first | (go_at_call 74; (with_reducible refine (spec_l00In.calls (rd l0 x3_1) 1 500 false _ A4.out).mono ?_); rintro e w' ⟨rfl, ⟨nd, rfl⟩⟩; (try first | exact ⟨rfl, _, World.drewN_drewN _ _ _⟩ | exact ⟨rfl, _, Eq.trans (World.drewN_drewN _ _ _) (congrArg (World.drewN _) (Nat.add_assoc _ _ _))⟩))))
        go_ret
        exact ⟨by first | rfl | (simp; done) | (simp [*]; done), by repeat (first | exact Drawn0.refl _ | apply Drawn0.step)⟩
      subst c5
      have H1 : (if x3_1 > 0 then (if 0 ≤ (wrap64 (x3_1 - 1)) then (if (wrap64 (x3_1 - 1)) < (l0.length : Int) then (if (rd l0 x3_1) ≤ (rd l0 (wrap64 (x3_1 - 1))) then (some false) else (spec_l01Values.l0 k1 l0 (wrap64 (x3_1 + 1)))) else (none)) else (none)) else (spec_l01Values.l0 k1 l0 (wrap64 (x3_1 + 1)))) = some r := by rw [if_pos rfl] at H; exact H
      clear H
      have H := H1
      clear H1
      by_cases c6 : x3_1 > 0
      rotate_left
      · rw [if_neg c6] at H
        have c6b0 : decide (0 < x3_1) = false := decide_eq_false c6
        clear c6
        have H' := Aside0.mk H
        clear H
        have p101 : 0 ≤ (x3_1 : Int) := of_decide_eq_true (by first | (with_reducible assumption) | assumption)
        have q101 : x3_1 < (l0.length : Int) := of_decide_eq_true (by first | (with_reducible assumption) | assumption)
        obtain ⟨ad101, e101, hx101_0⟩ := Kd.at_int HR0.out x3_1 p101 q101
        cases e101
        replace p101 := eq_true p101
        replace q101 := eq_true q101
        go_wp2_with (first | (go_at_call 74; (with_reducible refine (spec_l00In.calls (rd l0 x3_1) 1 500 true _ A4.out).mono ?_); rintro e w' ⟨rfl, ⟨nd, rfl⟩⟩; (try first | exact ⟨rfl, _, World.drewN_drewN _ _ _⟩ | exact ⟨rfl, _, Eq.trans (World.drewN_drewN _ _ _) (congrArg (World.drewN _) (Nat.add_assoc _ _ _))⟩)))
        repeat (go_quiet (first | (go_at_call 74; (with_reducible refine (spec_l00In.calls (rd l0 x3_1) 1 500 true _ A4.out).mono ?_); rintro e w' ⟨rfl, ⟨nd, rfl⟩⟩; (try first | exact ⟨rfl, _, World.drewN_drewN _ _ _⟩ | exact ⟨rfl, _, Eq.trans (World.drewN_drewN _ _ _) (congrArg (World.drewN _) (Nat.add_assoc _ _ _))⟩))); try go_wp2_with (first | (go_at_call 74; (with_reducible refine (spec_l00In.calls (rd l0 x3_1) 1 500 true _ A4.out).mono ?_); rintro e w' ⟨rfl, ⟨nd, rfl⟩⟩; (try first | exact ⟨rfl, _, World.drewN_drewN _ _ _⟩ | exact ⟨rfl, _, Eq.trans (World.drewN_drewN _ _ _) (congrArg (World.drewN _) (Nat.add_assoc _ _ _))⟩))))
        go_roundg k1
        case measure => have := HK1.out; omega
        case rel => exact ⟨(wrap64 (x3_1 + 1)), (by first | rfl | (simp; done) | (simp [*]; done)), H', ⟨by have := HK1.out; omega⟩, by repeat (first | exact Drawn0.refl _ | apply Drawn0.step)⟩
      rw [if_pos c6] at H
      have c6b0 : decide (0 < x3_1) = true := decide_eq_true c6
      clear c6
      obtain ⟨ji7, hji7⟩ : ∃ j_ : Int, (wrap64 (x3_1 - 1)) = j_ := ⟨_, rfl⟩
      replace H : (if 0 ≤ (ji7) then (if (ji7) < (l0.length : Int) then (if (rd l0 x3_1) ≤ (rd l0 (ji7)) then (some false) else (spec_l01Values.l0 k1 l0 (wrap64 (x3_1 + 1)))) else (none)) else (none)) = some r := by first | (rw [hji7] at H; exact H) | (simp only [hji7] at H ⊢; exact H)
      (try rw [hji7] at A4)
      have hji7w : (IntKind.i64.wrap (x3_1 - 1)) = ji7 := (i64_w _).trans hji7
      by_cases c8 : 0 ≤ (ji7)
      rotate_left
      · rw [if_neg c8] at H
        exact absurd H (by simp)
      rw [if_pos c8] at H
      have c8b0 : decide (0 ≤ (ji7)) = true := decide_eq_true c8
      clear c8
      by_cases c9 : (ji7) < (l0.length : Int)
      rotate_left
      · rw [if_neg c9] at H
        exact absurd H (by simp)
      rw [if_pos c9] at H
      have c9b0 : decide ((ji7) < (l0.length : Int)) = true := decide_eq_true c9
      clear c9
      by_cases c10 : (rd l0 x3_1) ≤ (rd l0 (ji7))
      rotate_left
      · rw [if_neg c10] at H
        have c10b0 : decide ((rd l0 x3_1) ≤ (rd l0 (ji7))) = false := decide_eq_false c10
        clear c10
        have H' := Aside0.mk H
        clear H
        have p101 : 0 ≤ (x3_1 : Int) := of_decide_eq_true (by first | (with_reducible assumption) | assumption)
        have q101 : x3_1 < (l0.length : Int) := of_decide_eq_true (by first | (with_reducible assumption) | assumption)
        obtain ⟨ad101, e101, hx101_0⟩ := Kd.at_int HR0.out x3_1 p101 q101
        cases e101
        replace p101 := eq_true p101
        replace q101 := eq_true q101
        go_wp2_with (first | (go_at_call 74; (with_reducible refine (spec_l00In.calls (rd l0 x3_1) 1 500 true _ A4.out).mono ?_); rintro e w' ⟨rfl, ⟨nd, rfl⟩⟩; (try first | exact ⟨rfl, _, World.drewN_drewN _ _ _⟩ | exact ⟨rfl, _, Eq.trans (World.drewN_drewN _ _ _) (congrArg (World.drewN _) (Nat.add_assoc _ _ _))⟩); have p103 : 0 ≤ (x3_1 : Int) := of_decide_eq_true (by first | (with_reducible assumption) | assumption); have q103 : x3_1 < (l0.length : Int) := of_decide_eq_true (by first | (with_reducible assumption) | assumption); obtain ⟨ad103, e103, hx103_0⟩ := Kd.at_int HR0.out x3_1 p103 q103; obtain rfl : ad101 = ad103 := (by injection e103); replace p103 := eq_true p103; replace q103 := eq_true q103; have p104 : 0 ≤ ((ji7) : Int) := of_decide_eq_true (by first | (with_reducible assumption) | assumption); have q104 : (ji7) < (l0.length : Int) := of_decide_eq_true (by first | (with_reducible assumption) | assumption); obtain ⟨ad104, e104, hx104_0⟩ := Kd.at_int HR0.out (ji7) p104 q104; obtain rfl : ad101 = ad104 := (by injection e104); replace p104 := eq_true p104; replace q104 := eq_true q104))
        repeat (go_quiet (first | (go_at_call 74; (with_reducible refine (spec_l00In.calls (rd l0 x3_1) 1 500 true _ A4.out).mono ?_); rintro e w' ⟨rfl, ⟨nd, rfl⟩⟩; (try first | exact ⟨rfl, _, World.drewN_drewN _ _ _⟩ | exact ⟨rfl, _, Eq.trans (World.drewN_drewN _ _ _) (congrArg (World.drewN _) (Nat.add_assoc _ _ _))⟩); have p103 : 0 ≤ (x3_1 : Int) := of_decide_eq_true (by first | (with_reducible assumption) | assumption); have q103 : x3_1 < (l0.length : Int) := of_decide_eq_true (by first | (with_reducible assumption) | assumption); obtain ⟨ad103, e103, hx103_0⟩ := Kd.at_int HR0.out x3_1 p103 q103; obtain rfl : ad101 = ad103 := (by injection e103); replace p103 := eq_true p103; replace q103 := eq_true q103; have p104 : 0 ≤ ((ji7) : Int) := of_decide_eq_true (by first | (with_reducible assumption) | assumption); have q104 : (ji7) < (l0.length : Int) := of_decide_eq_true (by first | (with_reducible assumption) | assumption); obtain ⟨ad104, e104, hx104_0⟩ := Kd.at_int HR0.out (ji7) p104 q104; obtain rfl : ad101 = ad104 := (by injection e104); replace p104 := eq_true p104; replace q104 := eq_true q104)); try go_wp2_with (first | (go_at_call 74; (with_reducible refine (spec_l00In.calls (rd l0 x3_1) 1 500 true _ A4.out).mono ?_); rintro e w' ⟨rfl, ⟨nd, rfl⟩⟩; (try first | exact ⟨rfl, _, World.drewN_drewN _ _ _⟩ | exact ⟨rfl, _, Eq.trans (World.drewN_drewN _ _ _) (congrArg (World.drewN _) (Nat.add_assoc _ _ _))⟩); have p103 : 0 ≤ (x3_1 : Int) := of_decide_eq_true (by first | (with_reducible assumption) | assumption); have q103 : x3_1 < (l0.length : Int) := of_decide_eq_true (by first | (with_reducible assumption) | assumption); obtain ⟨ad103, e103, hx103_0⟩ := Kd.at_int HR0.out x3_1 p103 q103; obtain rfl : ad101 = ad103 := (by injection e103); replace p103 := eq_true p103; replace q103 := eq_true q103; have p104 : 0 ≤ ((ji7) : Int) := of_decide_eq_true (by first | (with_reducible assumption) | assumption); have q104 : (ji7) < (l0.length : Int) := of_decide_eq_true (by first | (with_reducible assumption) | assumption); obtain ⟨ad104, e104, hx104_0⟩ := Kd.at_int HR0.out (ji7) p104 q104; obtain rfl : ad101 = ad104 := (by injection e104); replace p104 := eq_true p104; replace q104 := eq_true q104)))
        go_roundg k1
        case measure => have := HK1.out; omega
        case rel => exact ⟨(wrap64 (x3_1 + 1)), (by first | rfl | (simp; done) | (simp [*]; done)), H', ⟨by have := HK1.out; omega⟩, by repeat (first | exact Drawn0.refl _ | apply Drawn0.step)⟩
      rw [if_pos c10] at H
      have c10b0 : decide ((rd l0 x3_1) ≤ (rd l0 (ji7))) = true := decide_eq_true c10
      clear c10
      obtain rfl := Option.some.inj H
      have p101 : 0 ≤ (x3_1 : Int) := of_decide_eq_true (by first | (with_reducible assumption) | assumption)
      have q101 : x3_1 < (l0.length : Int) := of_decide_eq_true (by first | (with_reducible assumption) | assumption)
      obtain ⟨ad101, e101, hx101_0⟩ := Kd.at_int HR0.out x3_1 p101 q101
      cases e101
      replace p101 := eq_true p101
      replace q101 := eq_true q101
      go_wp2_with (first | (go_at_call 74; (with_reducible refine (spec_l00In.calls (rd l0 x3_1) 1 500 true _ A4.out).mono ?_); rintro e w' ⟨rfl, ⟨nd, rfl⟩⟩; (try first | exact ⟨rfl, _, World.drewN_drewN _ _ _⟩ | exact ⟨rfl, _, Eq.trans (World.drewN_drewN _ _ _) (congrArg (World.drewN _) (Nat.add_assoc _ _ _))⟩); have p103 : 0 ≤ (x3_1 : Int) := of_decide_eq_true (by first | (with_reducible assumption) | assumption); have q103 : x3_1 < (l0.length : Int) := of_decide_eq_true (by first | (with_reducible assumption) | assumption); obtain ⟨ad103, e103, hx103_0⟩ := Kd.at_int HR0.out x3_1 p103 q103; obtain rfl : ad101 = ad103 := (by injection e103); replace p103 := eq_true p103; replace q103 := eq_true q103; have p104 : 0 ≤ ((ji7) : Int) := of_decide_eq_true (by first | (with_reducible assumption) | assumption); have q104 : (ji7) < (l0.length : Int) := of_decide_eq_true (by first | (with_reducible assumption) | assumption); obtain ⟨ad104, e104, hx104_0⟩ := Kd.at_int HR0.out (ji7) p104 q104; obtain rfl : ad101 = ad104 := (by injection e104); replace p104 := eq_true p104; replace q104 := eq_true q104))
      repeat (go_quiet (first | (go_at_call 74; (with_reducible refine (spec_l00In.calls (rd l0 x3_1) 1 500 true _ A4.out).mono ?_); rintro e w' ⟨rfl, ⟨nd, rfl⟩⟩; (try first | exact ⟨rfl, _, World.drewN_drewN _ _ _⟩ | exact ⟨rfl, _, Eq.trans (World.drewN_drewN _ _ _) (congrArg (World.drewN _) (Nat.add_assoc _ _ _))⟩); have p103 : 0 ≤ (x3_1 : Int) := of_decide_eq_true (by first | (with_reducible assumption) | assumption); have q103 : x3_1 < (l0.length : Int) := of_decide_eq_true (by first | (with_reducible assumption) | assumption); obtain ⟨ad103, e103, hx103_0⟩ := Kd.at_int HR0.out x3_1 p103 q103; obtain rfl : ad101 = ad103 := (by injection e103); replace p103 := eq_true p103; replace q103 := eq_true q103; have p104 : 0 ≤ ((ji7) : Int) := of_decide_eq_true (by first | (with_reducible assumption) | assumption); have q104 : (ji7) < (l0.length : Int) := of_decide_eq_true (by first | (with_reducible assumption) | assumption); obtain ⟨ad104, e104, hx104_0⟩ := Kd.at_int HR0.out (ji7) p104 q104; obtain rfl : ad101 = ad104 := (by injection e104); replace p104 := eq_true p104; replace q104 := eq_true q104)); try go_wp2_with (first | (go_at_call 74; (with_reducible refine (spec_l00In.calls (rd l0 x3_1) 1 500 true _ A4.out).mono ?_); rintro e w' ⟨rfl, ⟨nd, rfl⟩⟩; (try first | exact ⟨rfl, _, World.drewN_drewN _ _ _⟩ | exact ⟨rfl, _, Eq.trans (World.drewN_drewN _ _ _) (congrArg (World.drewN _) (Nat.add_assoc _ _ _))⟩); have p103 : 0 ≤ (x3_1 : Int) := of_decide_eq_true (by first | (with_reducible assumption) | assumption); have q103 : x3_1 < (l0.length : Int) := of_decide_eq_true (by first | (with_reducible assumption) | assumption); obtain ⟨ad103, e103, hx103_0⟩ := Kd.at_int HR0.out x3_1 p103 q103; obtain rfl : ad101 = ad103 := (by injection e103); replace p103 := eq_true p103; replace q103 := eq_true q103; have p104 : 0 ≤ ((ji7) : Int) := of_decide_eq_true (by first | (with_reducible assumption) | assumption); have q104 : (ji7) < (l0.length : Int) := of_decide_eq_true (by first | (with_reducible assumption) | assumption); obtain ⟨ad104, e104, hx104_0⟩ := Kd.at_int HR0.out (ji7) p104 q104; obtain rfl : ad101 = ad104 := (by injection e104); replace p104 := eq_true p104; replace q104 := eq_true q104)))
      go_ret
      exact ⟨by first | rfl | (simp; done) | (simp only [← hji7] <;> (first | rfl | simp)) | (simp [*]; done), by repeat (first | exact Drawn0.refl _ | apply Drawn0.step)⟩
end Go.Proofs.Ytnhcdfikjfjkoaa.P

namespace Go.Proofs.Ytnhcdfikjfjkoaa.P
open Go.RowKit Go.Proofs.YtnhcdfikjfjkoaaW.PrintWords Go.Proofs.YtnhcdfikjfjkoaaW.PrintLast Go.Proofs.YtnhcdfikjfjkoaaW.PrintMore
attribute [local go_sem] max2_int min2_int max_two min_two max_three min_three max_four min_four   -- for this text's walks alone
set_option linter.unusedVariables false
set_option linter.unusedSimpArgs false

/-! ### spec_l01Asked: function 39 -/
def spec_l01Asked.f (k : Nat) (l0 : List Int) (a1 : Bool) : Option (Int) := (spec_l01Values.f k l0).bind fun t106 => (if t106 = true then (if a1 = true then (some 0) else (some 2)) else (some 1))
theorem spec_l01Asked.mono : ∀ a0 a1 k, LeO (spec_l01Asked.f k a0 a1) (spec_l01Asked.f (k + 1) a0 a1) := by
  intro a0 a1 k
  unfold spec_l01Asked.f
  repeat' first
      | (with_reducible exact spec_l01Values.mono _ _)
      | (with_reducible exact LeO.refl _)
      | (with_reducible exact LeO.none _)
      | (with_reducible refine LeO.ite ?_ ?_)
      | (with_reducible refine LeO.bind ?_ (fun _ => ?_))
      | exact spec_l01Values.mono _ _
      | exact LeO.none _
      | refine LeO.ite ?_ ?_
      | refine LeO.bind ?_ (fun _ => ?_)
set_option maxHeartbeats 8000000 in
set_option maxRecDepth 100000 in
theorem spec_l01Asked.calls (k : Nat) (A0 : Option Addr) (c0 : Nat) (l0 : List Int) (a1 : Bool) (r : Int) (w : World) (hr0 : Kd.C (Kd.int .i64) w A0 l0.length l0) (hc0 : l0.length ≤ c0) (h : spec_l01Asked.f k l0 a1 = some r) :
    Calls Try.prog 39 #[.slice A0 l0.length c0, .bool a1] w fun e w' => e = .returned (.int .i64 r) ∧ Drawn0 w w' := by
  have HR0 := Aside0.mk hr0
  have HC0 := Aside0.mk hc0
  clear hr0 hc0
  have H : ((spec_l01Values.f k l0).bind fun t106 => (if t106 = true then (if a1 = true then (some 0) else (some 2)) else (some 1))) = some r := h
  clear h
  replace H := Option.bind_eq_some_iff.mp H
  obtain ⟨t106, A30, H⟩ := H
  replace H : (if t106 = true then (if a1 = true then (some 0) else (some 2)) else (some 1)) = some r := H
  have A3 := Aside0.mk A30
  clear A30
  by_cases c4 : t106 = true
  rotate_left
  · replace c4 := Bool.eq_false_iff.mpr c4
    subst c4
    have H1 : (some 1) = some r := by rw [if_neg (show ¬ (false = true) by decide)] at H; exact H
    clear H
    have H := H1
    clear H1
    obtain rfl := Option.some.inj H
    go_enter Try.func39, Try.ntmps39
    go_wp2_with (first | ((with_reducible refine gate_callee (f := 73) rfl ?_); refine goesL_ (some 6) rfl rfl Try.func73 (by kernel_rfl) rfl #[.slice A0 l0.length c0] rfl (by (try simp only [List.map_toArray, List.map_cons, List.map_nil]); first | done | rfl | (simp only [List.length_drop, List.length_take]; rfl)) ?_; (with_reducible refine (spec_l01Values.calls k _ _ l0 false _ ?side1 ?side2 A3.out).mono ?_); (case side1 => repeat (first | exact HR0.out | (with_reducible refine Kd.C_alloc ?_ _) | (with_reducible refine Kd.C_drewN ?_ _) | (with_reducible refine Kd.C_drew ?_))); (case side2 => exact HC0.out); rintro e w' ⟨rfl, ⟨nd, rfl⟩⟩; refine ⟨_, rfl, ?_⟩))
    go_ret
    exact ⟨by first | rfl | (simp; done) | (simp [*]; done), by repeat (first | exact Drawn0.refl _ | apply Drawn0.step)⟩

  subst c4
  have H1 : (if a1 = true then (some 0) else (some 2)) = some r := by rw [if_pos rfl] at H; exact H
  clear H
  have H := H1
  clear H1
  by_cases c5 : a1 = true
  rotate_left
  · replace c5 := Bool.eq_false_iff.mpr c5
    subst c5
    have H1 : (some 2) = some r := by rw [if_neg (show ¬ (false = true) by decide)] at H; exact H
    clear H
    have H := H1
    clear H1
    obtain rfl := Option.some.inj H
    go_enter Try.func39, Try.ntmps39
    go_wp2_with (first | ((with_reducible refine gate_callee (f := 73) rfl ?_); refine goesL_ (some 6) rfl rfl Try.func73 (by kernel_rfl) rfl #[.slice A0 l0.length c0] rfl (by (try simp only [List.map_toArray, List.map_cons, List.map_nil]); first | done | rfl | (simp only [List.length_drop, List.length_take]; rfl)) ?_; (with_reducible refine (spec_l01Values.calls k _ _ l0 true _ ?side1 ?side2 A3.out).mono ?_); (case side1 => repeat (first | exact HR0.out | (with_reducible refine Kd.C_alloc ?_ _) | (with_reducible refine Kd.C_drewN ?_ _) | (with_reducible refine Kd.C_drew ?_))); (case side2 => exact HC0.out); rintro e w' ⟨rfl, ⟨nd, rfl⟩⟩; refine ⟨_, rfl, ?_⟩))
    go_ret
    exact ⟨by first | rfl | (simp; done) | (simp [*]; done), by repeat (first | exact Drawn0.refl _ | apply Drawn0.step)⟩
  subst c5
  have H1 : (some 0) = some r := by rw [if_pos rfl] at H; exact H
  clear H
  have H := H1
  clear H1
  obtain rfl := Option.some.inj H
  go_enter Try.func39, Try.ntmps39
  go_wp2_with (first | ((with_reducible refine gate_callee (f := 73) rfl ?_); refine goesL_ (some 6) rfl rfl Try.func73 (by kernel_rfl) rfl #[.slice A0 l0.length c0] rfl (by (try simp only [List.map_toArray, List.map_cons, List.map_nil]); first | done | rfl | (simp only [List.length_drop, List.length_take]; rfl)) ?_; (with_reducible refine (spec_l01Values.calls k _ _ l0 true _ ?side1 ?side2 A3.out).mono ?_); (case side1 => repeat (first | exact HR0.out | (with_reducible refine Kd.C_alloc ?_ _) | (with_reducible refine Kd.C_drewN ?_ _) | (with_reducible refine Kd.C_drew ?_))); (case side2 => exact HC0.out); rintro e w' ⟨rfl, ⟨nd, rfl⟩⟩; refine ⟨_, rfl, ?_⟩))
  go_ret
  exact ⟨by first | rfl | (simp; done) | (simp [*]; done), by repeat (first | exact Drawn0.refl _ | apply Drawn0.step)⟩
end Go.Proofs.Ytnhcdfikjfjkoaa.P

namespace Go.Proofs.Ytnhcdfikjfjkoaa.Pure
open Go.RowKit Go.Proofs.Ytnhcdfikjfjkoaa.P Go.Proofs.YtnhcdfikjfjkoaaW.PrintWords Go.Proofs.YtnhcdfikjfjkoaaW.PrintLast
set_option linter.unusedVariables false
set_option linter.unusedSimpArgs false

theorem inF (a lo hi : Int) : spec_l00In.f a lo hi = some (decide (lo ≤ a) && decide (a ≤ hi)) := by
  unfold spec_l00In.f; by_cases h : lo ≤ a <;> simp [h]
theorem withinF (a lo hi : Int) : impl_within.f a lo hi = some (decide (lo ≤ a) && decide (a ≤ hi)) := by
  unfold impl_within.f; by_cases h : lo ≤ a <;> simp [h]

/-- Values are valid: one to eight, rising, each from 1 to 500. -/
def VV (l : List Int) : Prop :=
  1 ≤ l.length ∧ l.length ≤ 8 ∧ (∀ j, j < l.length → 1 ≤ l.getD j 0 ∧ l.getD j 0 ≤ 500) ∧ (∀ j, 0 < j → j < l.length → l.getD (j - 1) 0 < l.getD j 0)

theorem specVV_l0 (l : List Int) (hb : l.length ≤ 17592186044415) : ∀ d i, l.length - i = d → i ≤ l.length →
    ∃ r, Ev (fun k => spec_l01Values.l0 k l (i : Int)) r ∧ (r = true ↔ (∀ j, i ≤ j → j < l.length → (1 ≤ l.getD j 0 ∧ l.getD j 0 ≤ 500) ∧ (0 < j → l.getD (j - 1) 0 < l.getD j 0)) ∧ 1 ≤ l.length ∧ l.length ≤ 8) := by
  intro d
  induction d with
  | zero =>
    intro i hd hi
    refine ⟨decide (1 ≤ l.length) && decide (l.length ≤ 8), Ev.step (f := fun _ => some (decide (1 ≤ l.length) && decide (l.length ≤ 8))) (fun k => ?_) (Ev.now _), ?_⟩
    · rw [spec_l01Values.l0, if_neg (by omega), inF, Option.bind_some]
      congr 2 <;> (rw [decide_eq_decide]; omega)
    · simp only [Bool.and_eq_true, decide_eq_true_eq]
      exact ⟨fun h => ⟨fun j h1 h2 => by omega, h⟩, fun h => h.2⟩
  | succ d ih =>
    intro i hd hi
    have hlt : i < l.length := by omega
    by_cases hin : 1 ≤ l.getD i 0 ∧ l.getD i 0 ≤ 500
    · have e1 : (decide (1 ≤ l.getD i 0) && decide (l.getD i 0 ≤ 500)) = true := by simp only [hin.1, hin.2, decide_true, Bool.and_self]
      rcases Nat.eq_zero_or_pos i with h0 | h0
      · subst h0
        obtain ⟨r, hr, hi'⟩ := ih 1 (by omega) (by omega)
        refine ⟨r, Ev.step (fun k => ?_) hr, ?_⟩
        · rw [spec_l01Values.l0, if_pos (by omega), if_pos (by omega), rdN, inF, Option.bind_some, if_pos e1, if_neg (by omega), wN 0 (by omega)]
        · rw [hi']
          refine ⟨fun h => ⟨fun j h1 h2 => ?_, h.2⟩, fun h => ⟨fun j h1 h2 => h.1 j (by omega) h2, h.2⟩⟩
          rcases Nat.eq_zero_or_pos j with e | e
          · subst e; exact ⟨hin, fun h => absurd h (Nat.lt_irrefl 0)⟩
          · exact h.1 j e h2
      · have e2 : wrap64 ((i : Int) - 1) = ((i - 1 : Nat) : Int) := by rw [w64 (by omega) (by omega)]; omega
        by_cases hle : l.getD i 0 ≤ l.getD (i - 1) 0
        · refine ⟨false, Ev.step (f := fun _ => some false) (fun k => ?_) (Ev.now _), ?_⟩
          · rw [spec_l01Values.l0, if_pos (by omega), if_pos (by omega), rdN, inF, Option.bind_some, if_pos e1, if_pos (by omega), e2, if_pos (by omega), if_pos (by omega), rdN, if_pos hle]
          · simp only [Bool.false_eq_true, false_iff]
            intro h
            have := (h.1 i (Nat.le_refl _) hlt).2 h0
            omega
        · obtain ⟨r, hr, hi'⟩ := ih (i + 1) (by omega) (by omega)
          refine ⟨r, Ev.step (fun k => ?_) hr, ?_⟩
          · rw [spec_l01Values.l0, if_pos (by omega), if_pos (by omega), rdN, inF, Option.bind_some, if_pos e1, if_pos (by omega), e2, if_pos (by omega), if_pos (by omega), rdN, if_neg hle, wN i (by omega)]
          · rw [hi']
            refine ⟨fun h => ⟨fun j h1 h2 => ?_, h.2⟩, fun h => ⟨fun j h1 h2 => h.1 j (by omega) h2, h.2⟩⟩
            rcases Nat.eq_or_lt_of_le h1 with e | e
            · subst e; exact ⟨hin, fun _ => by omega⟩
            · exact h.1 j e h2
    · have e1 : ¬ ((decide (1 ≤ l.getD i 0) && decide (l.getD i 0 ≤ 500)) = true) := by simpa using hin
      refine ⟨false, Ev.step (f := fun _ => some false) (fun k => ?_) (Ev.now _), ?_⟩
      · rw [spec_l01Values.l0, if_pos (by omega), if_pos (by omega), rdN, inF, Option.bind_some, if_neg e1]
      · simp only [Bool.false_eq_true, false_iff]
        intro h
        exact hin (h.1 i (Nat.le_refl _) hlt).1

theorem specVV (l : List Int) (hb : l.length ≤ 17592186044415) : ∃ r, Ev (fun k => spec_l01Values.f k l) r ∧ (r = true ↔ VV l) := by
  obtain ⟨r, hr, hi⟩ := specVV_l0 l hb _ 0 rfl (Nat.zero_le _)
  refine ⟨r, hr, hi.trans ⟨fun h => ⟨h.2.1, h.2.2, fun j hj => (h.1 j (Nat.zero_le _) hj).1, fun j h0 hj => (h.1 j (Nat.zero_le _) hj).2 h0⟩, fun h => ⟨fun j _ hj => ⟨h.2.2.1 j hj, fun h0 => h.2.2.2 j h0 hj⟩, h.1, h.2.1⟩⟩⟩

theorem rising_l0 (l : List Int) (hb : l.length ≤ 17592186044415) : ∀ d i, l.length - i = d → 1 ≤ i →
    ∃ r, Ev (fun k => impl_isRising.l0 k l (i : Int)) r ∧ (r = true ↔ (∀ j, i ≤ j → j < l.length → l.getD (j - 1) 0 < l.getD j 0)) := by
  intro d
  induction d with
  | zero =>
    intro i hd h1
    refine ⟨true, Ev.step (f := fun _ => some true) (fun k => ?_) (Ev.now _), ?_⟩
    · rw [impl_isRising.l0, if_neg (by omega)]
    · exact ⟨fun _ j h1 h2 => by omega, fun _ => rfl⟩
  | succ d ih =>
    intro i hd h1
    have hlt : i < l.length := by omega
    have e2 : wrap64 ((i : Int) - 1) = ((i - 1 : Nat) : Int) := by rw [w64 (by omega) (by omega)]; omega
    by_cases hle : l.getD i 0 ≤ l.getD (i - 1) 0
    · refine ⟨false, Ev.step (f := fun _ => some false) (fun k => ?_) (Ev.now _), ?_⟩
      · rw [impl_isRising.l0, if_pos (by omega), if_pos (by omega), e2, if_pos (by omega), if_pos (by omega), rdN, rdN, if_pos hle]
      · simp only [Bool.false_eq_true, false_iff]
        intro h
        have := h i (Nat.le_refl _) hlt
        omega
    · obtain ⟨r, hr, hi'⟩ := ih (i + 1) (by omega) (by omega)
      refine ⟨r, Ev.step (fun k => ?_) hr, ?_⟩
      · rw [impl_isRising.l0, if_pos (by omega), if_pos (by omega), e2, if_pos (by omega), if_pos (by omega), rdN, rdN, if_neg hle, wN i (by omega)]
      · rw [hi']
        refine ⟨fun h j h1 h2 => ?_, fun h j h1 h2 => h j (by omega) h2⟩
        rcases Nat.eq_or_lt_of_le h1 with e | e
        · subst e; omega
        · exact h j e h2
/-- Whether numbers rise. -/
theorem risingI (l : List Int) (hb : l.length ≤ 17592186044415) : ∃ r, Ev (fun k => impl_isRising.f k l) r ∧ (r = true ↔ (∀ j, 0 < j → j < l.length → l.getD (j - 1) 0 < l.getD j 0)) :=
  rising_l0 l hb _ 1 rfl (Nat.le_refl _)

theorem all_getD (p : Int → Bool) (l : List Int) : l.all p = true ↔ ∀ j, j < l.length → p (l.getD j 0) = true := by
  rw [List.all_eq_true]
  constructor
  · exact fun h j hj => h _ (getD_mem l j hj)
  · intro h x hx
    obtain ⟨j, hj, e⟩ := List.getElem_of_mem hx
    have := h j hj
    rwa [getD_eq l j hj, e] at this

theorem implVV (l : List Int) (hb : l.length ≤ 17592186044415) : ∃ r, Ev (fun k => impl_ValidValues.f k l) r ∧ (r = true ↔ VV l) := by
  obtain ⟨r, hr, hi⟩ := risingI l hb
  obtain ⟨K, hr⟩ := EvG hr
  have hs : impl_size_int64.f l = some (l.length : Int) := rfl
  by_cases h1 : 1 ≤ l.length ∧ l.length ≤ 8
  · have e1 : (decide ((1 : Int) ≤ (l.length : Int)) && decide ((l.length : Int) ≤ 8)) = true := by
      simp only [Bool.and_eq_true, decide_eq_true_eq]; omega
    by_cases h2 : (l.all fun x => decide (1 ≤ x) && decide (x ≤ 500)) = true
    · refine ⟨r, EvI K fun k hk => ?_, ?_⟩
      · rw [impl_ValidValues.f, hs, Option.bind_some, withinF, Option.bind_some, if_pos e1, impl_areWithin.f, Option.bind_some, if_pos h2, hr k hk]; rfl
      · rw [hi]
        rw [all_getD] at h2
        refine ⟨fun h => ⟨h1.1, h1.2, fun j hj => by simpa using h2 j hj, h⟩, fun h => h.2.2.2⟩
    · refine ⟨false, EvI 0 fun k hk => ?_, ?_⟩
      · rw [impl_ValidValues.f, hs, Option.bind_some, withinF, Option.bind_some, if_pos e1, impl_areWithin.f, Option.bind_some, if_neg h2]
      · simp only [Bool.false_eq_true, false_iff]
        intro h
        rw [all_getD] at h2
        exact h2 fun j hj => by simpa using h.2.2.1 j hj
  · have e1 : ¬ ((decide ((1 : Int) ≤ (l.length : Int)) && decide ((l.length : Int) ≤ 8)) = true) := by
      simp only [Bool.and_eq_true, decide_eq_true_eq]; omega
    refine ⟨false, EvI 0 fun k hk => ?_, ?_⟩
    · rw [impl_ValidValues.f, hs, Option.bind_some, withinF, Option.bind_some, if_neg e1]
    · simp only [Bool.false_eq_true, false_iff]
      exact fun h => h1 ⟨h.1, h.2.1⟩

/-- Both say the same of values. -/
theorem bothVV (l : List Int) (hb : l.length ≤ 17592186044415) : ∃ r, Ev (fun k => spec_l01Values.f k l) r ∧ Ev (fun k => impl_ValidValues.f k l) r ∧ (r = true ↔ VV l) := by
  obtain ⟨r, h1, h2⟩ := specVV l hb
  obtain ⟨r', h1', h2'⟩ := implVV l hb
  obtain rfl : r = r' := by rw [Bool.eq_iff_iff, h2, h2']
  exact ⟨r, h1, h1', h2⟩

/-- Both give the same code to values and a number from 0 on: 0 just where all is well. -/
theorem bothCode (l : List Int) (n most : Int) (hb : l.length ≤ 17592186044415) : ∃ c, Ev (fun k => spec_l01Asked.f k l (decide (0 ≤ n) && decide (n ≤ most))) c ∧ Ev (fun k => impl_valuesCode.f k l n most) c ∧ (c = 0 ↔ VV l ∧ 0 ≤ n ∧ n ≤ most) := by
  obtain ⟨r, h1, h2, h3⟩ := bothVV l hb
  obtain ⟨K1, h1⟩ := EvG h1
  obtain ⟨K2, h2⟩ := EvG h2
  cases r with
  | false =>
    refine ⟨1, EvI K1 fun k hk => ?_, EvI K2 fun k hk => ?_, ?_⟩
    · rw [spec_l01Asked.f, h1 k hk]; rfl
    · rw [impl_valuesCode.f, h2 k hk]; rfl
    · constructor
      · intro h; cases h
      · intro h; exact absurd (h3.2 h.1) (by simp)
  | true =>
    have hv := h3.1 rfl
    by_cases hn : 0 ≤ n ∧ n ≤ most
    · have e : (decide (0 ≤ n) && decide (n ≤ most)) = true := by simp [hn.1, hn.2]
      refine ⟨0, EvI K1 fun k hk => ?_, EvI K2 fun k hk => ?_, ⟨fun _ => ⟨hv, hn.1, hn.2⟩, fun _ => rfl⟩⟩
      · rw [spec_l01Asked.f, h1 k hk, e]; rfl
      · rw [impl_valuesCode.f, h2 k hk, Option.bind_some, if_pos rfl, withinF, Option.bind_some, e]; rfl
    · have e : (decide (0 ≤ n) && decide (n ≤ most)) = false := by
        rw [Bool.eq_false_iff]; intro h; simp at h; exact hn h
      refine ⟨2, EvI K1 fun k hk => ?_, EvI K2 fun k hk => ?_, ?_⟩
      · rw [spec_l01Asked.f, h1 k hk, e]; rfl
      · rw [impl_valuesCode.f, h2 k hk, Option.bind_some, if_pos rfl, withinF, Option.bind_some, e]; rfl
      · constructor
        · intro h; cases h
        · intro h; exact absurd h.2 hn
theorem postageF (n : Int) : spec_l01Postage.f n = some (decide (0 ≤ n) && decide (n ≤ 1000)) := by
  rw [spec_l01Postage.f, inF]; rfl

end Go.Proofs.Ytnhcdfikjfjkoaa.Pure

namespace Go.Proofs.Ytnhcdfikjfjkoaa.Pure
open Go.RowKit Go.Proofs.Ytnhcdfikjfjkoaa.P Go.Proofs.YtnhcdfikjfjkoaaW.PrintWords Go.Proofs.YtnhcdfikjfjkoaaW.PrintLast
set_option linter.unusedVariables false
set_option linter.unusedSimpArgs false

/-- The numbers of a stock are sixteen bits wide. -/
def Wf (l : List S56) : Prop := ∀ x ∈ l, (-32768 ≤ x.f0 ∧ x.f0 ≤ 32767) ∧ (-32768 ≤ x.f1 ∧ x.f1 ≤ 32767)
theorem Wf.at {l : List S56} (h : Wf l) (i : Nat) (hi : i < l.length) : (-32768 ≤ (l.getD i z56).f0 ∧ (l.getD i z56).f0 ≤ 32767) ∧ (-32768 ≤ (l.getD i z56).f1 ∧ (l.getD i z56).f1 ≤ 32767) := by
  rw [getD_eqG z56 l i hi]; exact h _ (List.getElem_mem hi)
theorem Wf.cv {l : List S58} (h : ∀ x ∈ l, (Lit.int .i16 x.f0).wf = true ∧ (Lit.int .i16 x.f1).wf = true) : Wf (l.map cv) := by
  intro x hx
  obtain ⟨y, hy, rfl⟩ := List.mem_map.1 hx
  exact ⟨bounds_i16 (h y hy).1, bounds_i16 (h y hy).2⟩
theorem map_getD (l : List S56) (f : S56 → Int) (i : Nat) (hi : i < l.length) : (l.map f).getD i 0 = f (l.getD i z56) := by
  rw [getD_eq _ i (by rw [List.length_map]; exact hi), List.getElem_map, getD_eqG z56 l i hi]
/-- A stock is valid. -/
def SV (l : List S56) : Prop :=
  l.length ≤ 8 ∧ (∀ j, j < l.length → (1 ≤ (l.getD j z56).f0 ∧ (l.getD j z56).f0 ≤ 500) ∧ (0 ≤ (l.getD j z56).f1 ∧ (l.getD j z56).f1 ≤ 50)) ∧ (∀ j, 0 < j → j < l.length → (l.getD (j - 1) z56).f0 < (l.getD j z56).f0)

theorem purse_l0 (l : List S56) (hw : Wf l) (hb : l.length ≤ 4398046511104) : ∀ d i (x y : List Int), l.length - i = d → i ≤ l.length → x = (l.take i).map S56.f0 → y = (l.take i).map S56.f1 →
    Ev (fun k => impl_purseOf.l0 k l (l.length : Int) (i : Int) x y) (l.map S56.f0, l.map S56.f1) := by
  intro d
  induction d with
  | zero =>
    intro i x y hd hi hx hy
    obtain rfl : i = l.length := by omega
    rw [List.take_length] at hx hy
    subst hx hy
    refine Ev.step (f := fun _ => some (l.map S56.f0, l.map S56.f1)) (fun k => ?_) (Ev.now _)
    rw [impl_purseOf.l0, if_neg (by omega)]
  | succ d ih =>
    intro i x y hd hi hx hy
    have hlt : i < l.length := by omega
    obtain ⟨h0, h1⟩ := hw.at i hlt
    have e0 : wrap64 (l.getD i z56).f0 = (l.getD i z56).f0 := w64 (by omega) (by omega)
    have e1 : wrap64 (l.getD i z56).f1 = (l.getD i z56).f1 := w64 (by omega) (by omega)
    have et : l.take (i + 1) = l.take i ++ [l.getD i z56] := by
      rw [List.take_add_one, List.getD_eq_getElem?_getD, List.getElem?_eq_getElem hlt]; rfl
    have lx : x.length = i := by rw [hx, List.length_map, List.length_take]; omega
    have ly : y.length = i := by rw [hy, List.length_map, List.length_take]; omega
    refine Ev.step (fun k => ?_) (ih (i + 1) (x ++ [(l.getD i z56).f0]) (y ++ [(l.getD i z56).f1]) (by omega) (by omega) (by rw [et, List.map_append, ← hx]; rfl) (by rw [et, List.map_append, ← hy]; rfl))
    rw [impl_purseOf.l0, if_pos (by omega), if_pos (by omega), if_pos (by omega), rdS, e0, e1, Option.bind_some, if_pos (by simp; omega), Option.bind_some, if_pos (by simp; omega), wN i (by omega)]
theorem purseF (l : List S56) (hw : Wf l) (hb : l.length ≤ 4398046511104) : Ev (fun k => impl_purseOf.f k l) (l.map S56.f0, l.map S56.f1) :=
  purse_l0 l hw hb _ 0 [] [] rfl (Nat.zero_le _) rfl rfl

theorem stock_l0 (l : List S56) (hw : Wf l) (hb : l.length ≤ 4398046511104) : ∀ d i, l.length - i = d → i ≤ l.length →
    ∃ r, Ev (fun k => spec_l01Stock.l0 k l (i : Int)) r ∧ (r = true ↔ (∀ j, i ≤ j → j < l.length → ((1 ≤ (l.getD j z56).f0 ∧ (l.getD j z56).f0 ≤ 500) ∧ (0 ≤ (l.getD j z56).f1 ∧ (l.getD j z56).f1 ≤ 50)) ∧ (0 < j → (l.getD (j - 1) z56).f0 < (l.getD j z56).f0)) ∧ l.length ≤ 8) := by
  intro d
  induction d with
  | zero =>
    intro i hd hi
    refine ⟨decide ((l.length : Int) ≤ 8), Ev.step (f := fun _ => some (decide ((l.length : Int) ≤ 8))) (fun k => ?_) (Ev.now _), ?_⟩
    · rw [spec_l01Stock.l0, if_neg (by omega)]
    · rw [decide_eq_true_eq]
      exact ⟨fun h => ⟨fun j h1 h2 => by omega, by omega⟩, fun h => by have := h.2; omega⟩
  | succ d ih =>
    intro i hd hi
    have hlt : i < l.length := by omega
    obtain ⟨h0, h1⟩ := hw.at i hlt
    have e0 : wrap64 (l.getD i z56).f0 = (l.getD i z56).f0 := w64 (by omega) (by omega)
    have e1 : wrap64 (l.getD i z56).f1 = (l.getD i z56).f1 := w64 (by omega) (by omega)
    have estep : ∀ k, spec_l01Stock.l0 (k + 1) l (i : Int) = spec_l01Stock.j1 k l (i : Int) (!((decide (1 ≤ (l.getD i z56).f0) && decide ((l.getD i z56).f0 ≤ 500)) && (decide (0 ≤ (l.getD i z56).f1) && decide ((l.getD i z56).f1 ≤ 50)))) := fun k => by
      rw [spec_l01Stock.l0, if_pos (by omega), if_pos (by omega), rdS, e0, e1, inF, Option.bind_some]
      cases (decide (1 ≤ (l.getD i z56).f0) && decide ((l.getD i z56).f0 ≤ 500)) with
      | false => rw [if_neg (by simp), Bool.false_and]; rfl
      | true => rw [if_pos rfl, inF, Option.bind_some, Bool.true_and]
    by_cases hin : (1 ≤ (l.getD i z56).f0 ∧ (l.getD i z56).f0 ≤ 500) ∧ (0 ≤ (l.getD i z56).f1 ∧ (l.getD i z56).f1 ≤ 50)
    · have eb : (!((decide (1 ≤ (l.getD i z56).f0) && decide ((l.getD i z56).f0 ≤ 500)) && (decide (0 ≤ (l.getD i z56).f1) && decide ((l.getD i z56).f1 ≤ 50)))) = false := by
        simp only [hin.1.1, hin.1.2, hin.2.1, hin.2.2, decide_true, Bool.and_self, Bool.not_true]
      rw [eb] at estep
      rcases Nat.eq_zero_or_pos i with hz | hz
      · subst hz
        obtain ⟨r, hr, hi'⟩ := ih 1 (by omega) (by omega)
        refine ⟨r, Ev.step estep (Ev.step (g := fun k => spec_l01Stock.j1 k l ((0 : Nat) : Int) false) (fun k => ?_) hr), ?_⟩
        · rw [spec_l01Stock.j1, if_neg (by simp), if_neg (by omega), wN 0 (by omega)]
        · rw [hi']
          refine ⟨fun h => ⟨fun j q1 q2 => ?_, h.2⟩, fun h => ⟨fun j q1 q2 => h.1 j (by omega) q2, h.2⟩⟩
          rcases Nat.eq_zero_or_pos j with e | e
          · subst e; exact ⟨hin, fun h => absurd h (Nat.lt_irrefl 0)⟩
          · exact h.1 j e q2
      · have e2 : wrap64 ((i : Int) - 1) = ((i - 1 : Nat) : Int) := by rw [w64 (by omega) (by omega)]; omega
        by_cases hle : (l.getD i z56).f0 ≤ (l.getD (i - 1) z56).f0
        · refine ⟨false, Ev.step estep (Ev.step (f := fun _ => some false) (g := fun k => spec_l01Stock.j1 k l (i : Int) false) (fun k => ?_) (Ev.now _)), ?_⟩
          · rw [spec_l01Stock.j1, if_neg (by simp), if_pos (by omega), if_pos (by omega), if_pos (by omega), e2, if_pos (by omega), if_pos (by omega), rdS, rdS, if_pos hle]
          · simp only [Bool.false_eq_true, false_iff]
            intro h
            have := (h.1 i (Nat.le_refl _) hlt).2 hz
            omega
        · obtain ⟨r, hr, hi'⟩ := ih (i + 1) (by omega) (by omega)
          refine ⟨r, Ev.step estep (Ev.step (g := fun k => spec_l01Stock.j1 k l (i : Int) false) (fun k => ?_) hr), ?_⟩
          · rw [spec_l01Stock.j1, if_neg (by simp), if_pos (by omega), if_pos (by omega), if_pos (by omega), e2, if_pos (by omega), if_pos (by omega), rdS, rdS, if_neg hle, wN i (by omega)]
          · rw [hi']
            refine ⟨fun h => ⟨fun j q1 q2 => ?_, h.2⟩, fun h => ⟨fun j q1 q2 => h.1 j (by omega) q2, h.2⟩⟩
            rcases Nat.eq_or_lt_of_le q1 with e | e
            · subst e; exact ⟨hin, fun _ => by omega⟩
            · exact h.1 j e q2
    · have eb : (!((decide (1 ≤ (l.getD i z56).f0) && decide ((l.getD i z56).f0 ≤ 500)) && (decide (0 ≤ (l.getD i z56).f1) && decide ((l.getD i z56).f1 ≤ 50)))) = true := by
        rw [Bool.not_eq_true']
        apply Classical.byContradiction
        intro hn
        apply hin
        simpa [and_assoc] using hn
      rw [eb] at estep
      refine ⟨false, Ev.step estep (Ev.step (f := fun _ => some false) (g := fun k => spec_l01Stock.j1 k l (i : Int) true) (fun k => ?_) (Ev.now _)), ?_⟩
      · rw [spec_l01Stock.j1, if_pos rfl]
      · simp only [Bool.false_eq_true, false_iff]
        intro h
        exact hin (h.1 i (Nat.le_refl _) hlt).1

theorem specStock (l : List S56) (hw : Wf l) (hb : l.length ≤ 4398046511104) : ∃ r, Ev (fun k => spec_l01Stock.f k l) r ∧ (r = true ↔ SV l) := by
  obtain ⟨r, hr, hi⟩ := stock_l0 l hw hb _ 0 rfl (Nat.zero_le _)
  exact ⟨r, hr, hi.trans ⟨fun h => ⟨h.2, fun j hj => (h.1 j (Nat.zero_le _) hj).1, fun j h0 hj => (h.1 j (Nat.zero_le _) hj).2 h0⟩, fun h => ⟨fun j _ hj => ⟨h.2.1 j hj, fun h0 => h.2.2 j h0 hj⟩, h.1⟩⟩⟩

theorem areW (l : List Int) (a b : Int) : ∃ r, impl_areWithin.f l a b = some r ∧ (r = true ↔ ∀ j, j < l.length → a ≤ l.getD j 0 ∧ l.getD j 0 ≤ b) := by
  refine ⟨_, rfl, ?_⟩
  rw [all_getD]
  simp only [Bool.and_eq_true, decide_eq_true_eq]

theorem implStock (l : List S56) (hw : Wf l) (hb : l.length ≤ 4398046511104) : ∃ r, Ev (fun k => impl_ValidStock.f k l) r ∧ (r = true ↔ SV l) := by
  obtain ⟨K1, h1⟩ := EvG (purseF l hw hb)
  obtain ⟨r1, a1, b1⟩ := areW (l.map S56.f0) 1 500
  obtain ⟨r2, a2, b2⟩ := risingI (l.map S56.f0) (by rw [List.length_map]; omega)
  obtain ⟨r3, a3, b3⟩ := areW (l.map S56.f1) 0 50
  obtain ⟨K2, a2⟩ := EvG a2
  rw [List.length_map] at b1 b2 b3
  have c1 : r1 = true ↔ ∀ j, j < l.length → 1 ≤ (l.getD j z56).f0 ∧ (l.getD j z56).f0 ≤ 500 := by
    rw [b1]
    exact ⟨fun h j hj => by have := h j hj; rwa [map_getD l S56.f0 j hj] at this, fun h j hj => by rw [map_getD l S56.f0 j hj]; exact h j hj⟩
  have c3 : r3 = true ↔ ∀ j, j < l.length → 0 ≤ (l.getD j z56).f1 ∧ (l.getD j z56).f1 ≤ 50 := by
    rw [b3]
    exact ⟨fun h j hj => by have := h j hj; rwa [map_getD l S56.f1 j hj] at this, fun h j hj => by rw [map_getD l S56.f1 j hj]; exact h j hj⟩
  have c2 : r2 = true ↔ ∀ j, 0 < j → j < l.length → (l.getD (j - 1) z56).f0 < (l.getD j z56).f0 := by
    rw [b2]
    exact ⟨fun h j h0 hj => by have := h j h0 hj; rwa [map_getD l S56.f0 j hj, map_getD l S56.f0 (j - 1) (by omega)] at this, fun h j h0 hj => by rw [map_getD l S56.f0 j hj, map_getD l S56.f0 (j - 1) (by omega)]; exact h j h0 hj⟩
  refine ⟨decide (l.length ≤ 8) && r1 && r2 && r3, EvI (K1 + K2) fun k hk => ?_, ?_⟩
  · rw [impl_ValidStock.f, h1 k (by omega), Option.bind_some]
    by_cases h8 : l.length ≤ 8
    · rw [if_pos (by omega), a1, Option.bind_some, a2 k (by omega), a3]
      simp only [h8, decide_true, Bool.true_and, Option.bind_some]
      cases r1 <;> cases r2 <;> rfl
    · rw [if_neg (by omega)]
      simp only [h8, decide_false, Bool.false_and]
  · simp only [Bool.and_eq_true, decide_eq_true_eq]
    rw [c1, c2, c3]
    exact ⟨fun h => ⟨h.1.1.1, fun j hj => ⟨h.1.1.2 j hj, h.2 j hj⟩, h.1.2⟩, fun h => ⟨⟨⟨h.1, fun j hj => (h.2.1 j hj).1⟩, h.2.2⟩, fun j hj => (h.2.1 j hj).2⟩⟩

theorem bothStock (l : List S56) (hw : Wf l) (hb : l.length ≤ 4398046511104) : ∃ r, Ev (fun k => spec_l01Stock.f k l) r ∧ Ev (fun k => impl_ValidStock.f k l) r ∧ (r = true ↔ SV l) := by
  obtain ⟨r, h1, h2⟩ := specStock l hw hb
  obtain ⟨s, h3, h4⟩ := implStock l hw hb
  have : r = s := Bool.eq_iff_iff.2 (h2.trans h4.symm)
  subst this
  exact ⟨r, h1, h3, h2⟩

end Go.Proofs.Ytnhcdfikjfjkoaa.Pure

namespace Go.Proofs.Ytnhcdfikjfjkoaa.P
open Go.RowKit Go.Proofs.YtnhcdfikjfjkoaaW.PrintWords Go.Proofs.YtnhcdfikjfjkoaaW.PrintLast Go.Proofs.YtnhcdfikjfjkoaaW.PrintMore
attribute [local go_sem] max2_int min2_int max_two min_two max_three min_three max_four min_four   -- for this text's walks alone
set_option linter.unusedVariables false
set_option linter.unusedSimpArgs false

/-! ### laws_heldStampS: function 34 -/
def laws_heldStampS.l0 : Nat → List (S56) → Int → Int → Option (Int)
  | 0, _, _, _ => none
  | k + 1, x0, x1, x5 => if x5 < (x0.length : Int) then (if 0 ≤ x5 then (if ((rd_T56 x0 x5).f0) = (IntKind.i16.wrap (x1)) then (if ((rd_T56 x0 x5).f1) = (IntKind.i16.wrap (wrap64 (x1 + 1))) then (laws_heldStampS.l0 k x0 (wrap64 ((wrap64 (x1 + 1)) + 1)) (wrap64 (x5 + 1))) else (some (-1))) else (some (-1))) else (none)) else (some x1)
def laws_heldStampS.f (k : Nat) (l0 : List (S56)) (a1 : Int) : Option (Int) := laws_heldStampS.l0 k l0 a1 0
theorem laws_heldStampS.mono_l : ∀ k, (∀ y0 y1 y2, LeO (laws_heldStampS.l0 k y0 y1 y2) (laws_heldStampS.l0 (k + 1) y0 y1 y2))
  | 0 => fun _ _ _ r h => by simp [laws_heldStampS.l0] at h
  | k + 1 => by
    have ih0 := laws_heldStampS.mono_l k
    · intro y0 y1 y2
      unfold laws_heldStampS.l0
      repeat' first
      | (with_reducible exact ih0 _ _ _)
      | (with_reducible exact LeO.refl _)
      | (with_reducible exact LeO.none _)
      | (with_reducible refine LeO.ite ?_ ?_)
      | (with_reducible refine LeO.bind ?_ (fun _ => ?_))
      | exact ih0 _ _ _
      | exact LeO.none _
      | refine LeO.ite ?_ ?_
      | refine LeO.bind ?_ (fun _ => ?_)
theorem laws_heldStampS.mono : ∀ a0 a1 k, LeO (laws_heldStampS.f k a0 a1) (laws_heldStampS.f (k + 1) a0 a1) := by
  intro a0 a1 k
  have ih0 := laws_heldStampS.mono_l k
  unfold laws_heldStampS.f
  repeat' first
      | (with_reducible exact ih0 _ _ _)
      | (with_reducible exact LeO.refl _)
      | (with_reducible exact LeO.none _)
      | (with_reducible refine LeO.ite ?_ ?_)
      | (with_reducible refine LeO.bind ?_ (fun _ => ?_))
      | exact ih0 _ _ _
      | exact LeO.none _
      | refine LeO.ite ?_ ?_
      | refine LeO.bind ?_ (fun _ => ?_)
set_option maxHeartbeats 8000000 in
set_option maxRecDepth 100000 in
theorem laws_heldStampS.calls (k : Nat) (A0 : Option Addr) (c0 : Nat) (l0 : List (S56)) (a1 : Int) (r : Int) (w : World) (hr0 : Kd.C k56 w A0 l0.length l0) (hc0 : l0.length ≤ c0) (h : laws_heldStampS.f k l0 a1 = some r) :
    Calls Try.prog 34 #[.slice A0 l0.length c0, .int .i64 a1] w fun e w' => e = .returned (.int .i64 r) ∧ Drawn0 w w' := by
  have HR0 := Aside0.mk hr0
  have HC0 := Aside0.mk hc0
  clear hr0 hc0
  have H : (laws_heldStampS.l0 k l0 a1 0) = some r := h
  clear h
  have H' := Aside0.mk H
  clear H
  go_enter Try.func34, Try.ntmps34
  go_wp2
  go_loopg [1, 5] k (fun kq v1 v5 w' => ∃ (x1_1 : Int) (x5_1 : Int), v1 = .int .i64 x1_1 ∧ v5 = .int .i64 x5_1 ∧ Aside0 (laws_heldStampS.l0 kq l0 x1_1 x5_1 = some r) ∧ Aside0 (kq ≤ k) ∧ Drawn0 w w')
  case atStart => exact ⟨(a1), (0), (by first | rfl | (simp; done) | (simp [*]; done)), (by first | rfl | (simp; done) | (simp [*]; done)), H', ⟨Nat.le_refl _⟩, by repeat (first | exact Drawn0.refl _ | apply Drawn0.step)⟩
  case round =>
    clear H'
    try clear p2
    obtain ⟨x1_1, x5_1, rfl, rfl, HA, HK1, ⟨m1, rfl⟩⟩ := hrel
    cases gk with
    | zero => exact absurd HA.out (by simp [laws_heldStampS.l0])
    | succ k1 =>
      have H := HA.out
      clear HA
      simp only [laws_heldStampS.l0] at H
      by_cases c3 : x5_1 < (l0.length : Int)
      rotate_left
      · rw [if_neg c3] at H
        have c3b0 : decide (x5_1 < (l0.length : Int)) = false := decide_eq_false c3
        clear c3
        obtain rfl := Option.some.inj H
        go_wp2
        go_ret
        exact ⟨by first | rfl | (simp; done) | (simp [*]; done), by repeat (first | exact Drawn0.refl _ | apply Drawn0.step)⟩

      rw [if_pos c3] at H
      have c3b0 : decide (x5_1 < (l0.length : Int)) = true := decide_eq_true c3
      clear c3
      by_cases c4 : 0 ≤ x5_1
      rotate_left
      · rw [if_neg c4] at H
        exact absurd H (by simp)
      rw [if_pos c4] at H
      have c4b0 : decide (0 ≤ x5_1) = true := decide_eq_true c4
      clear c4
      by_cases c5 : ((rd_T56 l0 x5_1).f0) = (IntKind.i16.wrap (x1_1))
      rotate_left
      · rw [if_neg c5] at H
        have c5b0 : (((rd_T56 l0 x5_1).f0) == (IntKind.i16.wrap (x1_1))) = false := beq_eq_false_iff_ne.mpr c5
        have c5b1 : (((rd_T56 l0 x5_1).f0) != (IntKind.i16.wrap (x1_1))) = true := bne_iff_ne.mpr c5
        obtain rfl := Option.some.inj H
        have p633 : 0 ≤ (x5_1 : Int) := of_decide_eq_true (by first | (with_reducible assumption) | assumption)
        have q633 : x5_1 < (l0.length : Int) := of_decide_eq_true (by first | (with_reducible assumption) | assumption)
        obtain ⟨ad633, e633, hx633_0, hx633_1⟩ := at_T56 HR0.out x5_1 p633 q633
        cases e633
        replace p633 := eq_true p633
        replace q633 := eq_true q633
        go_wp2
        go_ret
        exact ⟨by first | rfl | (simp; done) | (simp [*]; done), by repeat (first | exact Drawn0.refl _ | apply Drawn0.step)⟩
      rw [if_pos c5] at H
      have c5b0 : (((rd_T56 l0 x5_1).f0) == (IntKind.i16.wrap (x1_1))) = true := beq_iff_eq.mpr c5
      have c5b1 : (((rd_T56 l0 x5_1).f0) != (IntKind.i16.wrap (x1_1))) = false := bne_eq_false_iff_eq.mpr c5
      clear c5
      by_cases c6 : ((rd_T56 l0 x5_1).f1) = (IntKind.i16.wrap (wrap64 (x1_1 + 1)))
      rotate_left
      · rw [if_neg c6] at H
        have c6b0 : (((rd_T56 l0 x5_1).f1) == (IntKind.i16.wrap (wrap64 (x1_1 + 1)))) = false := beq_eq_false_iff_ne.mpr c6
        have c6b1 : (((rd_T56 l0 x5_1).f1) != (IntKind.i16.wrap (wrap64 (x1_1 + 1)))) = true := bne_iff_ne.mpr c6
        obtain rfl := Option.some.inj H
        have p633 : 0 ≤ (x5_1 : Int) := of_decide_eq_true (by first | (with_reducible assumption) | assumption)
        have q633 : x5_1 < (l0.length : Int) := of_decide_eq_true (by first | (with_reducible assumption) | assumption)
        obtain ⟨ad633, e633, hx633_0, hx633_1⟩ := at_T56 HR0.out x5_1 p633 q633
        cases e633
        replace p633 := eq_true p633
        replace q633 := eq_true q633
        have p634 : 0 ≤ (x5_1 : Int) := of_decide_eq_true (by first | (with_reducible assumption) | assumption)
        have q634 : x5_1 < (l0.length : Int) := of_decide_eq_true (by first | (with_reducible assumption) | assumption)
        obtain ⟨ad634, e634, hx634_0, hx634_1⟩ := at_T56 HR0.out x5_1 p634 q634
        obtain rfl : ad633 = ad634 := (by injection e634)
        replace p634 := eq_true p634
        replace q634 := eq_true q634
        go_wp2
        go_ret
        exact ⟨by first | rfl | (simp; done) | (simp [*]; done), by repeat (first | exact Drawn0.refl _ | apply Drawn0.step)⟩
      rw [if_pos c6] at H
      have c6b0 : (((rd_T56 l0 x5_1).f1) == (IntKind.i16.wrap (wrap64 (x1_1 + 1)))) = true := beq_iff_eq.mpr c6
      have c6b1 : (((rd_T56 l0 x5_1).f1) != (IntKind.i16.wrap (wrap64 (x1_1 + 1)))) = false := bne_eq_false_iff_eq.mpr c6
      clear c6
      have H' := Aside0.mk H
      clear H
      have p633 : 0 ≤ (x5_1 : Int) := of_decide_eq_true (by first | (with_reducible assumption) | assumption)
      have q633 : x5_1 < (l0.length : Int) := of_decide_eq_true (by first | (with_reducible assumption) | assumption)
      obtain ⟨ad633, e633, hx633_0, hx633_1⟩ := at_T56 HR0.out x5_1 p633 q633
      cases e633
      replace p633 := eq_true p633
      replace q633 := eq_true q633
      have p634 : 0 ≤ (x5_1 : Int) := of_decide_eq_true (by first | (with_reducible assumption) | assumption)
      have q634 : x5_1 < (l0.length : Int) := of_decide_eq_true (by first | (with_reducible assumption) | assumption)
      obtain ⟨ad634, e634, hx634_0, hx634_1⟩ := at_T56 HR0.out x5_1 p634 q634
      obtain rfl : ad633 = ad634 := (by injection e634)
      replace p634 := eq_true p634
      replace q634 := eq_true q634
      go_wp2
      go_roundg k1
      case measure => have := HK1.out; omega
      case rel => exact ⟨(wrap64 ((wrap64 (x1_1 + 1)) + 1)), (wrap64 (x5_1 + 1)), (by first | rfl | (simp; done) | (simp [*]; done)), (by first | rfl | (simp; done) | (simp [*]; done)), H', ⟨by have := HK1.out; omega⟩, by repeat (first | exact Drawn0.refl _ | apply Drawn0.step)⟩
end Go.Proofs.Ytnhcdfikjfjkoaa.P

namespace Go.Proofs.Ytnhcdfikjfjkoaa.Pure
open Go.RowKit Go.Proofs.Ytnhcdfikjfjkoaa.P Go.Proofs.YtnhcdfikjfjkoaaW.PrintWords Go.Proofs.YtnhcdfikjfjkoaaW.PrintLast
set_option linter.unusedVariables false
set_option linter.unusedSimpArgs false

/-- The marks of the stamp at a place. -/
def mkE (m : Nat) : S56 := ⟨IntKind.i16.wrap (m : Int), IntKind.i16.wrap ((m + 1 : Nat) : Int)⟩
def mkS (n : Nat) : List S56 := (List.range n).map fun i => mkE (1 + 2 * i)
theorem mkS_len (n : Nat) : (mkS n).length = n := by simp [mkS]
theorem mkS_at (n i : Nat) (h : i < n) : (mkS n).getD i z56 = mkE (1 + 2 * i) := by
  simp [mkS, List.getD_eq_getElem?_getD, h]
theorem markS_l0 (n : Nat) (hb : n ≤ 2000000) : ∀ d i x, n - i = d → i ≤ n → x.length = n → (∀ j, j < i → x.getD j z56 = mkE (1 + 2 * j)) →
    Ev (fun k => laws_markStampS.l0 k x ((1 + 2 * i : Nat) : Int) (i : Int)) (((1 + 2 * n : Nat) : Int), mkS n) := by
  intro d
  induction d with
  | zero =>
    intro i x hd hi hx hj
    obtain rfl : i = n := by omega
    refine Ev.step (f := fun _ => some (((1 + 2 * i : Nat) : Int), x)) (fun k => ?_) ?_
    · rw [laws_markStampS.l0, if_neg (by omega)]
    · have : x = mkS i := list_extG z56 x _ (by rw [mkS_len]; exact hx) (fun j h => by rw [mkS_len] at h; rw [hj j h, mkS_at i j h])
      rw [this]; exact Ev.now _
  | succ d ih =>
    intro i x hd hi hx hj
    refine Ev.step (fun k => ?_) (ih (i + 1) (x.set i (mkE (1 + 2 * i))) (by omega) (by omega) (by simpa using hx) ?_)
    · rw [laws_markStampS.l0, if_pos (by omega), if_pos (by omega), Option.bind_some]
      rw [wN (1 + 2 * i) (by omega), wN (1 + 2 * i + 1) (by omega), wN i (by omega)]
      simp only [Int.toNat_natCast, rdS]
      rw [getD_setG z56 _ i i _ (by rw [hx]; omega), if_pos rfl, List.set_set]
      rfl
    · intro j h
      rw [getD_setG z56 x i j _ (by omega)]
      by_cases e : i = j
      · rw [if_pos e, e]
      · rw [if_neg e]; exact hj j (by omega)
theorem markS (l : List S56) (hb : l.length ≤ 2000000) : Ev (fun k => laws_markStampS.f k l 1) (((1 + 2 * l.length : Nat) : Int), mkS l.length) :=
  markS_l0 l.length hb _ 0 l rfl (Nat.zero_le _) rfl (fun j h => absurd h (Nat.not_lt_zero _))
theorem heldS_l0 (n : Nat) (hb : n ≤ 2000000) : ∀ d i, n - i = d → i ≤ n → Ev (fun k => laws_heldStampS.l0 k (mkS n) ((1 + 2 * i : Nat) : Int) (i : Int)) ((1 + 2 * n : Nat) : Int) := by
  intro d
  induction d with
  | zero =>
    intro i hd hi
    obtain rfl : i = n := by omega
    refine Ev.step (f := fun _ => some (((1 + 2 * i : Nat) : Int))) (fun k => ?_) (Ev.now _)
    rw [laws_heldStampS.l0, mkS_len, if_neg (by omega)]
  | succ d ih =>
    intro i hd hi
    refine Ev.step (fun k => ?_) (ih (i + 1) (by omega) (by omega))
    rw [laws_heldStampS.l0, mkS_len, if_pos (by omega), if_pos (by omega), rdS, mkS_at n i (by omega), wN (1 + 2 * i) (by omega), wN (1 + 2 * i + 1) (by omega), wN i (by omega), if_pos (show (mkE (1 + 2 * i)).f0 = IntKind.i16.wrap ((1 + 2 * i : Nat) : Int) from rfl), if_pos (show (mkE (1 + 2 * i)).f1 = IntKind.i16.wrap ((1 + 2 * i + 1 : Nat) : Int) from rfl)]
    rfl
theorem heldS (n : Nat) (hb : n ≤ 2000000) : Ev (fun k => laws_heldStampS.f k (mkS n) 1) ((1 + 2 * n : Nat) : Int) :=
  heldS_l0 n hb _ 0 rfl (Nat.zero_le _)

end Go.Proofs.Ytnhcdfikjfjkoaa.Pure

namespace Go.Proofs.Ytnhcdfikjfjkoaa.Pure
open Go.RowKit Go.Proofs.Ytnhcdfikjfjkoaa.P Go.Proofs.YtnhcdfikjfjkoaaW.PrintWords Go.Proofs.YtnhcdfikjfjkoaaW.PrintLast
set_option linter.unusedVariables false
set_option linter.unusedSimpArgs false

theorem rdL1 (l : List (List Int)) (i : Nat) : rd_L1 l (i : Int) = l.getD i [] := rfl
theorem rdL7 (l : List (List S77)) (i : Nat) : rd_L7 l (i : Int) = l.getD i [] := rfl
theorem rdP (l : List S77) (i : Nat) : rd_T77 l (i : Int) = l.getD i z77 := rfl
theorem getD_range {α : Type} (f : Nat → α) (n a : Nat) (z : α) (h : a < n) : ((List.range n).map f).getD a z = f a := by
  simp [List.getD_eq_getElem?_getD, h]
/-- The fewest stamps for an amount, where less than K stamps of a kind are tried. -/
def bk (X : List Int) (v a : Nat) : Nat → Int
  | 0 => -1
  | K + 1 => if 0 ≤ X.getD (a - K * v) 0 ∧ (bk X v a K < 0 ∨ X.getD (a - K * v) 0 + (K : Int) < bk X v a K) then X.getD (a - K * v) 0 + (K : Int) else bk X v a K
/-- In how many ways. -/
def wk (Y : List S77) (v a : Nat) : Nat → Int
  | 0 => 0
  | K + 1 => wk Y v a K + (Y.getD (a - K * v) z77).f0
def lk (Y : List S77) (v a : Nat) : Nat → Int
  | 0 => 0
  | K + 1 => if (Y.getD (a - K * v) z77).f0 ≠ 0 ∧ (wk Y v a K = 0 ∨ (Y.getD (a - K * v) z77).f1 + (K : Int) < lk Y v a K) then (Y.getD (a - K * v) z77).f1 + (K : Int) else lk Y v a K
/-- How many numbers of stamps are tried. -/
def nk (v h a : Nat) : Nat := min h (a / v) + 1
theorem nk_lt {v h a K : Nat} (hv : 1 ≤ v) : K < nk v h a ↔ K ≤ h ∧ K * v ≤ a := by
  have := Nat.le_div_iff_mul_le (k := v) (x := K) (y := a) hv
  unfold nk
  omega
theorem nk_le {v h a K : Nat} (hv : 1 ≤ v) (hK : K ≤ nk v h a) : K * v ≤ a + v ∧ K ≤ h + 1 := by
  rcases Nat.eq_zero_or_pos K with rfl | hp
  · simp
  · obtain ⟨j, rfl⟩ : ∃ j, K = j + 1 := ⟨K - 1, by omega⟩
    have := (nk_lt (v := v) (h := h) (a := a) (K := j) hv).1 (by omega)
    rw [Nat.succ_mul]
    omega
def rowS (X : List Int) (v h m : Nat) : List Int := (List.range (m + 1)).map fun a => bk X v a (nk v h a)
def rowI (Y : List S77) (v h m : Nat) : List S77 := (List.range (m + 1)).map fun a => ⟨wk Y v a (nk v h a), lk Y v a (nk v h a)⟩
def headS (vs hs : List Int) (m : Nat) : Nat → List Int
  | 0 => (List.range (m + 1)).map fun a => if a = 0 then 0 else -1
  | k + 1 => rowS (headS vs hs m k) (vs.getD (vs.length - 1 - k) 0).toNat (hs.getD (vs.length - 1 - k) 0).toNat m
def headI (vs hs : List Int) (m : Nat) : Nat → List S77
  | 0 => (List.range (m + 1)).map fun a => ⟨if a = 0 then 1 else 0, 0⟩
  | k + 1 => rowI (headI vs hs m k) (vs.getD (vs.length - 1 - k) 0).toNat (hs.getD (vs.length - 1 - k) 0).toNat m
theorem headS_len (vs hs : List Int) (m k : Nat) : (headS vs hs m k).length = m + 1 := by cases k <;> simp [headS, rowS]
theorem headI_len (vs hs : List Int) (m k : Nat) : (headI vs hs m k).length = m + 1 := by cases k <;> simp [headI, rowI]
/-- How an amount's entries agree. -/
def RelE (B : Nat) (a : Nat) (x : Int) (y : S77) : Prop := (x = -1 ∧ y.f0 = 0) ∨ (0 ≤ x ∧ x ≤ a ∧ 1 ≤ y.f0 ∧ y.f0 ≤ B ∧ y.f1 = x)
def RelRow (B m : Nat) (X : List Int) (Y : List S77) : Prop := ∀ a, a ≤ m → RelE B a (X.getD a 0) (Y.getD a z77)
theorem relK {B m : Nat} {X : List Int} {Y : List S77} (hR : RelRow B m X Y) (v h a : Nat) (hv : 1 ≤ v) (ha : a ≤ m) : ∀ K, K ≤ nk v h a →
    (bk X v a K = -1 ∧ wk Y v a K = 0) ∨ (0 ≤ bk X v a K ∧ bk X v a K ≤ a ∧ 1 ≤ wk Y v a K ∧ wk Y v a K ≤ ((K * B : Nat) : Int) ∧ lk Y v a K = bk X v a K)
  | 0, _ => Or.inl ⟨rfl, rfl⟩
  | K + 1, hK => by
    have ih := relK hR v h a hv ha K (by omega)
    obtain ⟨h1, h2⟩ := (nk_lt (h := h) (a := a) (K := K) hv).1 (by omega)
    have hKv : K ≤ K * v := Nat.le_mul_of_pos_right K hv
    have hB : (K + 1) * B = K * B + B := Nat.succ_mul K B
    have he := hR (a - K * v) (by omega)
    unfold RelE at he
    simp only [bk, wk, lk]
    rcases he with ⟨e1, e2⟩ | ⟨e1, e2, e3, e4, e5⟩
    · rw [if_neg (by omega), if_neg (by omega), e2, Int.add_zero]
      rcases ih with i | ⟨i1, i2, i3, i4, i5⟩
      · exact Or.inl i
      · exact Or.inr ⟨i1, i2, i3, by omega, i5⟩
    · right
      rcases ih with ⟨i1, i2⟩ | ⟨i1, i2, i3, i4, i5⟩
      · rw [if_pos ⟨e1, Or.inl (by omega)⟩, if_pos ⟨by omega, Or.inl i2⟩]
        refine ⟨by omega, by omega, by omega, by omega, by omega⟩
      · by_cases c : X.getD (a - K * v) 0 + (K : Int) < bk X v a K
        · rw [if_pos ⟨e1, Or.inr c⟩, if_pos ⟨by omega, Or.inr (by omega)⟩]
          refine ⟨by omega, by omega, by omega, by omega, by omega⟩
        · rw [if_neg (by omega), if_neg (by omega)]
          refine ⟨by omega, by omega, by omega, by omega, by omega⟩
theorem relRow_step {B B' m : Nat} {X : List Int} {Y : List S77} (hR : RelRow B m X Y) (v h : Nat) (hv : 1 ≤ v) (hB : ∀ a, a ≤ m → nk v h a * B ≤ B') : RelRow B' m (rowS X v h m) (rowI Y v h m) := by
  intro a ha
  have h1 := relK hR v h a hv ha (nk v h a) (Nat.le_refl _)
  have h2 := hB a ha
  unfold rowS rowI
  rw [getD_range _ _ _ _ (by omega), getD_range _ _ _ _ (by omega)]
  rcases h1 with i | ⟨i1, i2, i3, i4, i5⟩
  · exact Or.inl i
  · exact Or.inr ⟨i1, i2, i3, Int.le_trans i4 (Int.ofNat_le.2 h2), i5⟩
theorem relRow_base (vs hs : List Int) (m : Nat) : RelRow 1 m (headS vs hs m 0) (headI vs hs m 0) := by
  intro a ha
  simp only [headS, headI]
  rw [getD_range _ _ _ _ (by omega), getD_range _ _ _ _ (by omega)]
  by_cases e : a = 0
  · exact Or.inr ⟨by simp [e], by simp [e], by simp [e], by simp [e], by simp [e]⟩
  · exact Or.inl ⟨by simp [e], by simp [e]⟩
/-- What is asked of the kinds. -/
structure Kinds (vs hs : List Int) (m : Nat) (B : Nat → Nat) : Prop where
  len : hs.length = vs.length
  val : ∀ i, i < vs.length → 1 ≤ vs.getD i 0 ∧ vs.getD i 0 ≤ 500
  hav : ∀ i, i < vs.length → 0 ≤ hs.getD i 0 ∧ hs.getD i 0 ≤ 2000000000000
  b0 : B 0 = 1
  bs : ∀ k, k < vs.length → ∀ a, a ≤ m → nk (vs.getD (vs.length - 1 - k) 0).toNat (hs.getD (vs.length - 1 - k) 0).toNat a * B k ≤ B (k + 1)
  bb : ∀ k, k ≤ vs.length → B k ≤ 4000000000000000000
theorem relHead {vs hs : List Int} {m : Nat} {B : Nat → Nat} (q : Kinds vs hs m B) : ∀ k, k ≤ vs.length → RelRow (B k) m (headS vs hs m k) (headI vs hs m k)
  | 0, _ => by rw [q.b0]; exact relRow_base vs hs m
  | k + 1, hk => relRow_step (relHead q k (by omega)) _ _ (by have := q.val (vs.length - 1 - k) (by omega); omega) (q.bs k (by omega))
/-- The number of stamps of a kind that the fewest need. -/
theorem bk_found (X : List Int) (v a : Nat) : ∀ K, 0 ≤ bk X v a K → ∃ j, j < K ∧ 0 ≤ X.getD (a - j * v) 0 ∧ X.getD (a - j * v) 0 + (j : Int) = bk X v a K
  | 0, h => by simp [bk] at h
  | K + 1, h => by
    simp only [bk] at h ⊢
    split at h
    · rename_i c
      exact ⟨K, by omega, c.1, by rw [if_pos c]⟩
    · rename_i c
      obtain ⟨j, h1, h2, h3⟩ := bk_found X v a K h
      exact ⟨j, by omega, h2, by rw [if_neg c]; exact h3⟩

end Go.Proofs.Ytnhcdfikjfjkoaa.Pure
