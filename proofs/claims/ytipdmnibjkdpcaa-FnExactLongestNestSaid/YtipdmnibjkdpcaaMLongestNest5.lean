/- The Go functions that the law FnExactLongestNest comes to, as plain Lean functions, the proofs that calls of them return what those tell, and the plain lemmas on them; no condition but those that each theorem states. -/
import Derived.Test.YtipdmnibjkdpcaaMLongestNest2
import Derived.Test.YtipdmnibjkdpcaaMLongestNest4
import Derived.OpenShut
import Derived.Test.YtipdmnibjkdpcaaMLongestNest3
import Derived.Test.YtipdmnibjkdpcaaRows
import Derived.Test.YtipdmnibjkdpcaaMLongestNest1
import Derived.Deep.Slices
import Derived.WalkKit
import Derived.ProofKit
import Derived.ShutString
import Derived.ChangeOld
import Derived.Below
import Derived.SizedLaws
import Derived.ChangeArms
import Derived.Carry
namespace Go.Proofs.Ytipdmnibjkdpcaa.P
open Go.RowKit Go.Proofs.YtipdmnibjkdpcaaW.PrintWords Go.Proofs.YtipdmnibjkdpcaaW.PrintLast Go.Proofs.YtipdmnibjkdpcaaW.PrintMore
attribute [local go_sem] max2_int min2_int max_two min_two max_three min_three max_four min_four
set_option linter.unusedVariables false
set_option linter.unusedSimpArgs false
def laws_eqBox.f (a0_0 : Int) (a0_1 : Int) (a0_2 : Int) (a1_0 : Int) (a1_1 : Int) (a1_2 : Int) : Option (Bool) := if a0_0 = a1_0 then (if a0_1 = a1_1 then (if a0_2 = a1_2 then (some true) else (some false)) else (some false)) else (some false)
set_option maxHeartbeats 8000000 in
set_option maxRecDepth 100000 in
theorem laws_eqBox.calls (a0_0 : Int) (a0_1 : Int) (a0_2 : Int) (a1_0 : Int) (a1_1 : Int) (a1_2 : Int) (r : Bool) (w : World) (h : laws_eqBox.f a0_0 a0_1 a0_2 a1_0 a1_1 a1_2 = some r) :
    Calls Try.prog 44 #[.agg #[.int .i8 a0_0, .int .i8 a0_1, .int .i8 a0_2], .agg #[.int .i8 a1_0, .int .i8 a1_1, .int .i8 a1_2]] w fun e w' => e = .returned (.bool r) ∧ Below w.heap.size w w' := by
  have hu64 := Try.underlying64
  have HB := Aside0.mk (Below.refl w.heap.size w)
  have H : (if a0_0 = a1_0 then (if a0_1 = a1_1 then (if a0_2 = a1_2 then (some true) else (some false)) else (some false)) else (some false)) = some r := h
  clear h
  by_cases c3 : a0_0 = a1_0
  rotate_left
  · rw [if_neg c3] at H
    have c3b0 : (a0_0 == a1_0) = false := beq_eq_false_iff_ne.mpr c3
    have c3b1 : (a0_0 != a1_0) = true := bne_iff_ne.mpr c3
    obtain rfl := Option.some.inj H
    go_enter Try.func44, Try.ntmps44
    go_wp2_with (first | ((with_reducible refine gate_dst (N := 2) rfl ?_); refine box_event ?hg (N := 2) ?hd (cs := #[.int .i8 a0_0, .int .i8 a0_1, .int .i8 a0_2]) (t := 64) ?hr ?_; (case hd => rfl); (case hg => rfl); (case hr => first | (go_simp; done) | (go_simp; rfl)); intro gb383 hg w21 hbox hb; have n0_ := Aside0.mk (below_step (by repeat (first | (with_reducible first | exact HB.out | apply below_alloc | apply pw_below_drewN | apply below_drew1) | exact HB.out)) hb); have n1_ := Aside0.mk (hbox); have n2_ := Aside0.mk ((by rw [hg]; exact (below_size (by repeat (first | (with_reducible first | exact HB.out | apply below_alloc | apply pw_below_drewN | apply below_drew1) | exact HB.out))) : w.heap.size ≤ gb383)); have n3_ := Aside0.mk ((by rw [hg]; exact (below_size (by repeat (first | (with_reducible first | exact HB.out | apply below_alloc | apply pw_below_drewN | apply below_drew1) | exact HB.out))) : w.heap.size ≤ gb383)); clear HB; have HB := n0_; have BK383 := n1_; have GW383 := n2_; have GE383 := n3_; clear n0_ n1_ n2_ n3_; clear hb hbox hg) | ((with_reducible refine gate_dst (N := 3) rfl ?_); refine box_event ?hg (N := 3) ?hd (cs := #[.int .i8 a1_0, .int .i8 a1_1, .int .i8 a1_2]) (t := 64) ?hr ?_; (case hd => rfl); (case hg => rfl); (case hr => first | (go_simp; done) | (go_simp; rfl)); intro gb384 hg w22 hbox hb; have n0_ := Aside0.mk (blk_below (g := gb383) (o := .cells #[.int .i8 a0_0, .int .i8 a0_1, .int .i8 a0_2] 64 (0, 0)) (by (with_reducible repeat (first | refine blk_drewN ?_ _ | refine blk_drew ?_ | refine blk_alloc ?_ _)); exact BK383.out) hb); have n1_ := Aside0.mk (below_step (by repeat (first | (with_reducible first | exact HB.out | apply below_alloc | apply pw_below_drewN | apply below_drew1 | refine below_set ?_ GE383.out) | exact HB.out)) hb); have n2_ := Aside0.mk (hbox); have n3_ := Aside0.mk ((by rw [hg]; exact (below_size (by repeat (first | (with_reducible first | exact HB.out | apply below_alloc | apply pw_below_drewN | apply below_drew1 | refine below_set ?_ GE383.out) | exact HB.out))) : w.heap.size ≤ gb384)); have n4_ := Aside0.mk ((by rw [hg]; exact (below_size (by repeat (first | (with_reducible first | exact HB.out | apply below_alloc | apply pw_below_drewN | apply below_drew1 | refine below_set ?_ GE383.out) | exact HB.out))) : w.heap.size ≤ gb384)); have n5_ := Aside0.mk ((by rw [hg]; exact Nat.ne_of_lt (blk_lt (g := gb383) (o := .cells #[.int .i8 a0_0, .int .i8 a0_1, .int .i8 a0_2] 64 (0, 0)) (by (with_reducible repeat (first | refine blk_drewN ?_ _ | refine blk_drew ?_ | refine blk_alloc ?_ _)); exact BK383.out)) : gb383 ≠ gb384)); have n6_ := Aside0.mk ((by rw [hg]; exact Nat.ne_of_gt (blk_lt (g := gb383) (o := .cells #[.int .i8 a0_0, .int .i8 a0_1, .int .i8 a0_2] 64 (0, 0)) (by (with_reducible repeat (first | refine blk_drewN ?_ _ | refine blk_drew ?_ | refine blk_alloc ?_ _)); exact BK383.out)) : gb384 ≠ gb383)); clear BK383; clear HB; have BK383 := n0_; have HB := n1_; have BK384 := n2_; have GW384 := n3_; have GE384 := n4_; have NB383_384 := n5_; have NB384_383 := n6_; clear n0_ n1_ n2_ n3_ n4_ n5_ n6_; clear hb hbox hg; have hnb23 := NB383_384.out; have hnc23 := NB384_383.out; have hcz24_0 : w22.cell? ⟨gb383, 0, none⟩ = some (.int .i8 a0_0) := (blk_cell BK383.out 0).trans rfl; have hcz24_1 : w22.cell? ⟨gb383, 1, none⟩ = some (.int .i8 a0_1) := (blk_cell BK383.out 1).trans rfl; have hcz24_2 : w22.cell? ⟨gb383, 2, none⟩ = some (.int .i8 a0_2) := (blk_cell BK383.out 2).trans rfl; have hfz24_0 := blk_frozen BK383.out 0; have hfz24_1 := blk_frozen BK383.out 1; have hfz24_2 := blk_frozen BK383.out 2; have hcz25_0 : w22.cell? ⟨gb384, 0, none⟩ = some (.int .i8 a1_0) := (blk_cell BK384.out 0).trans rfl; have hcz25_1 : w22.cell? ⟨gb384, 1, none⟩ = some (.int .i8 a1_1) := (blk_cell BK384.out 1).trans rfl; have hcz25_2 : w22.cell? ⟨gb384, 2, none⟩ = some (.int .i8 a1_2) := (blk_cell BK384.out 2).trans rfl; have hfz25_0 := blk_frozen BK384.out 0; have hfz25_1 := blk_frozen BK384.out 1; have hfz25_2 := blk_frozen BK384.out 2))
    go_ret
    exact ⟨by first | rfl | (simp [errW_none, errW_some] <;> rfl) | (simp [*, errW_none, errW_some] <;> rfl), by repeat (first | (with_reducible first | exact HB.out | apply below_alloc | apply pw_below_drewN | apply below_drew1 | refine below_set ?_ GE383.out | refine below_set ?_ GE384.out) | exact HB.out)⟩
  rw [if_pos c3] at H
  have c3b0 : (a0_0 == a1_0) = true := beq_iff_eq.mpr c3
  have c3b1 : (a0_0 != a1_0) = false := bne_eq_false_iff_eq.mpr c3
  clear c3
  by_cases c4 : a0_1 = a1_1
  rotate_left
  · rw [if_neg c4] at H
    have c4b0 : (a0_1 == a1_1) = false := beq_eq_false_iff_ne.mpr c4
    have c4b1 : (a0_1 != a1_1) = true := bne_iff_ne.mpr c4
    obtain rfl := Option.some.inj H
    go_enter Try.func44, Try.ntmps44
    go_wp2_with (first | ((with_reducible refine gate_dst (N := 2) rfl ?_); refine box_event ?hg (N := 2) ?hd (cs := #[.int .i8 a0_0, .int .i8 a0_1, .int .i8 a0_2]) (t := 64) ?hr ?_; (case hd => rfl); (case hg => rfl); (case hr => first | (go_simp; done) | (go_simp; rfl)); intro gb383 hg w16 hbox hb; have n0_ := Aside0.mk (below_step (by repeat (first | (with_reducible first | exact HB.out | apply below_alloc | apply pw_below_drewN | apply below_drew1) | exact HB.out)) hb); have n1_ := Aside0.mk (hbox); have n2_ := Aside0.mk ((by rw [hg]; exact (below_size (by repeat (first | (with_reducible first | exact HB.out | apply below_alloc | apply pw_below_drewN | apply below_drew1) | exact HB.out))) : w.heap.size ≤ gb383)); have n3_ := Aside0.mk ((by rw [hg]; exact (below_size (by repeat (first | (with_reducible first | exact HB.out | apply below_alloc | apply pw_below_drewN | apply below_drew1) | exact HB.out))) : w.heap.size ≤ gb383)); clear HB; have HB := n0_; have BK383 := n1_; have GW383 := n2_; have GE383 := n3_; clear n0_ n1_ n2_ n3_; clear hb hbox hg) | ((with_reducible refine gate_dst (N := 3) rfl ?_); refine box_event ?hg (N := 3) ?hd (cs := #[.int .i8 a1_0, .int .i8 a1_1, .int .i8 a1_2]) (t := 64) ?hr ?_; (case hd => rfl); (case hg => rfl); (case hr => first | (go_simp; done) | (go_simp; rfl)); intro gb384 hg w17 hbox hb; have n0_ := Aside0.mk (blk_below (g := gb383) (o := .cells #[.int .i8 a0_0, .int .i8 a0_1, .int .i8 a0_2] 64 (0, 0)) (by (with_reducible repeat (first | refine blk_drewN ?_ _ | refine blk_drew ?_ | refine blk_alloc ?_ _)); exact BK383.out) hb); have n1_ := Aside0.mk (below_step (by repeat (first | (with_reducible first | exact HB.out | apply below_alloc | apply pw_below_drewN | apply below_drew1 | refine below_set ?_ GE383.out) | exact HB.out)) hb); have n2_ := Aside0.mk (hbox); have n3_ := Aside0.mk ((by rw [hg]; exact (below_size (by repeat (first | (with_reducible first | exact HB.out | apply below_alloc | apply pw_below_drewN | apply below_drew1 | refine below_set ?_ GE383.out) | exact HB.out))) : w.heap.size ≤ gb384)); have n4_ := Aside0.mk ((by rw [hg]; exact (below_size (by repeat (first | (with_reducible first | exact HB.out | apply below_alloc | apply pw_below_drewN | apply below_drew1 | refine below_set ?_ GE383.out) | exact HB.out))) : w.heap.size ≤ gb384)); have n5_ := Aside0.mk ((by rw [hg]; exact Nat.ne_of_lt (blk_lt (g := gb383) (o := .cells #[.int .i8 a0_0, .int .i8 a0_1, .int .i8 a0_2] 64 (0, 0)) (by (with_reducible repeat (first | refine blk_drewN ?_ _ | refine blk_drew ?_ | refine blk_alloc ?_ _)); exact BK383.out)) : gb383 ≠ gb384)); have n6_ := Aside0.mk ((by rw [hg]; exact Nat.ne_of_gt (blk_lt (g := gb383) (o := .cells #[.int .i8 a0_0, .int .i8 a0_1, .int .i8 a0_2] 64 (0, 0)) (by (with_reducible repeat (first | refine blk_drewN ?_ _ | refine blk_drew ?_ | refine blk_alloc ?_ _)); exact BK383.out)) : gb384 ≠ gb383)); clear BK383; clear HB; have BK383 := n0_; have HB := n1_; have BK384 := n2_; have GW384 := n3_; have GE384 := n4_; have NB383_384 := n5_; have NB384_383 := n6_; clear n0_ n1_ n2_ n3_ n4_ n5_ n6_; clear hb hbox hg; have hnb18 := NB383_384.out; have hnc18 := NB384_383.out; have hcz19_0 : w17.cell? ⟨gb383, 0, none⟩ = some (.int .i8 a0_0) := (blk_cell BK383.out 0).trans rfl; have hcz19_1 : w17.cell? ⟨gb383, 1, none⟩ = some (.int .i8 a0_1) := (blk_cell BK383.out 1).trans rfl; have hcz19_2 : w17.cell? ⟨gb383, 2, none⟩ = some (.int .i8 a0_2) := (blk_cell BK383.out 2).trans rfl; have hfz19_0 := blk_frozen BK383.out 0; have hfz19_1 := blk_frozen BK383.out 1; have hfz19_2 := blk_frozen BK383.out 2; have hcz20_0 : w17.cell? ⟨gb384, 0, none⟩ = some (.int .i8 a1_0) := (blk_cell BK384.out 0).trans rfl; have hcz20_1 : w17.cell? ⟨gb384, 1, none⟩ = some (.int .i8 a1_1) := (blk_cell BK384.out 1).trans rfl; have hcz20_2 : w17.cell? ⟨gb384, 2, none⟩ = some (.int .i8 a1_2) := (blk_cell BK384.out 2).trans rfl; have hfz20_0 := blk_frozen BK384.out 0; have hfz20_1 := blk_frozen BK384.out 1; have hfz20_2 := blk_frozen BK384.out 2))
    go_ret
    exact ⟨by first | rfl | (simp [errW_none, errW_some] <;> rfl) | (simp [*, errW_none, errW_some] <;> rfl), by repeat (first | (with_reducible first | exact HB.out | apply below_alloc | apply pw_below_drewN | apply below_drew1 | refine below_set ?_ GE383.out | refine below_set ?_ GE384.out) | exact HB.out)⟩
  rw [if_pos c4] at H
  have c4b0 : (a0_1 == a1_1) = true := beq_iff_eq.mpr c4
  have c4b1 : (a0_1 != a1_1) = false := bne_eq_false_iff_eq.mpr c4
  clear c4
  by_cases c5 : a0_2 = a1_2
  rotate_left
  · rw [if_neg c5] at H
    have c5b0 : (a0_2 == a1_2) = false := beq_eq_false_iff_ne.mpr c5
    have c5b1 : (a0_2 != a1_2) = true := bne_iff_ne.mpr c5
    obtain rfl := Option.some.inj H
    go_enter Try.func44, Try.ntmps44
    go_wp2_with (first | ((with_reducible refine gate_dst (N := 2) rfl ?_); refine box_event ?hg (N := 2) ?hd (cs := #[.int .i8 a0_0, .int .i8 a0_1, .int .i8 a0_2]) (t := 64) ?hr ?_; (case hd => rfl); (case hg => rfl); (case hr => first | (go_simp; done) | (go_simp; rfl)); intro gb383 hg w11 hbox hb; have n0_ := Aside0.mk (below_step (by repeat (first | (with_reducible first | exact HB.out | apply below_alloc | apply pw_below_drewN | apply below_drew1) | exact HB.out)) hb); have n1_ := Aside0.mk (hbox); have n2_ := Aside0.mk ((by rw [hg]; exact (below_size (by repeat (first | (with_reducible first | exact HB.out | apply below_alloc | apply pw_below_drewN | apply below_drew1) | exact HB.out))) : w.heap.size ≤ gb383)); have n3_ := Aside0.mk ((by rw [hg]; exact (below_size (by repeat (first | (with_reducible first | exact HB.out | apply below_alloc | apply pw_below_drewN | apply below_drew1) | exact HB.out))) : w.heap.size ≤ gb383)); clear HB; have HB := n0_; have BK383 := n1_; have GW383 := n2_; have GE383 := n3_; clear n0_ n1_ n2_ n3_; clear hb hbox hg) | ((with_reducible refine gate_dst (N := 3) rfl ?_); refine box_event ?hg (N := 3) ?hd (cs := #[.int .i8 a1_0, .int .i8 a1_1, .int .i8 a1_2]) (t := 64) ?hr ?_; (case hd => rfl); (case hg => rfl); (case hr => first | (go_simp; done) | (go_simp; rfl)); intro gb384 hg w12 hbox hb; have n0_ := Aside0.mk (blk_below (g := gb383) (o := .cells #[.int .i8 a0_0, .int .i8 a0_1, .int .i8 a0_2] 64 (0, 0)) (by (with_reducible repeat (first | refine blk_drewN ?_ _ | refine blk_drew ?_ | refine blk_alloc ?_ _)); exact BK383.out) hb); have n1_ := Aside0.mk (below_step (by repeat (first | (with_reducible first | exact HB.out | apply below_alloc | apply pw_below_drewN | apply below_drew1 | refine below_set ?_ GE383.out) | exact HB.out)) hb); have n2_ := Aside0.mk (hbox); have n3_ := Aside0.mk ((by rw [hg]; exact (below_size (by repeat (first | (with_reducible first | exact HB.out | apply below_alloc | apply pw_below_drewN | apply below_drew1 | refine below_set ?_ GE383.out) | exact HB.out))) : w.heap.size ≤ gb384)); have n4_ := Aside0.mk ((by rw [hg]; exact (below_size (by repeat (first | (with_reducible first | exact HB.out | apply below_alloc | apply pw_below_drewN | apply below_drew1 | refine below_set ?_ GE383.out) | exact HB.out))) : w.heap.size ≤ gb384)); have n5_ := Aside0.mk ((by rw [hg]; exact Nat.ne_of_lt (blk_lt (g := gb383) (o := .cells #[.int .i8 a0_0, .int .i8 a0_1, .int .i8 a0_2] 64 (0, 0)) (by (with_reducible repeat (first | refine blk_drewN ?_ _ | refine blk_drew ?_ | refine blk_alloc ?_ _)); exact BK383.out)) : gb383 ≠ gb384)); have n6_ := Aside0.mk ((by rw [hg]; exact Nat.ne_of_gt (blk_lt (g := gb383) (o := .cells #[.int .i8 a0_0, .int .i8 a0_1, .int .i8 a0_2] 64 (0, 0)) (by (with_reducible repeat (first | refine blk_drewN ?_ _ | refine blk_drew ?_ | refine blk_alloc ?_ _)); exact BK383.out)) : gb384 ≠ gb383)); clear BK383; clear HB; have BK383 := n0_; have HB := n1_; have BK384 := n2_; have GW384 := n3_; have GE384 := n4_; have NB383_384 := n5_; have NB384_383 := n6_; clear n0_ n1_ n2_ n3_ n4_ n5_ n6_; clear hb hbox hg; have hnb13 := NB383_384.out; have hnc13 := NB384_383.out; have hcz14_0 : w12.cell? ⟨gb383, 0, none⟩ = some (.int .i8 a0_0) := (blk_cell BK383.out 0).trans rfl; have hcz14_1 : w12.cell? ⟨gb383, 1, none⟩ = some (.int .i8 a0_1) := (blk_cell BK383.out 1).trans rfl; have hcz14_2 : w12.cell? ⟨gb383, 2, none⟩ = some (.int .i8 a0_2) := (blk_cell BK383.out 2).trans rfl; have hfz14_0 := blk_frozen BK383.out 0; have hfz14_1 := blk_frozen BK383.out 1; have hfz14_2 := blk_frozen BK383.out 2; have hcz15_0 : w12.cell? ⟨gb384, 0, none⟩ = some (.int .i8 a1_0) := (blk_cell BK384.out 0).trans rfl; have hcz15_1 : w12.cell? ⟨gb384, 1, none⟩ = some (.int .i8 a1_1) := (blk_cell BK384.out 1).trans rfl; have hcz15_2 : w12.cell? ⟨gb384, 2, none⟩ = some (.int .i8 a1_2) := (blk_cell BK384.out 2).trans rfl; have hfz15_0 := blk_frozen BK384.out 0; have hfz15_1 := blk_frozen BK384.out 1; have hfz15_2 := blk_frozen BK384.out 2))
    go_ret
    exact ⟨by first | rfl | (simp [errW_none, errW_some] <;> rfl) | (simp [*, errW_none, errW_some] <;> rfl), by repeat (first | (with_reducible first | exact HB.out | apply below_alloc | apply pw_below_drewN | apply below_drew1 | refine below_set ?_ GE383.out | refine below_set ?_ GE384.out) | exact HB.out)⟩
  rw [if_pos c5] at H
  have c5b0 : (a0_2 == a1_2) = true := beq_iff_eq.mpr c5
  have c5b1 : (a0_2 != a1_2) = false := bne_eq_false_iff_eq.mpr c5
  clear c5
  obtain rfl := Option.some.inj H
  go_enter Try.func44, Try.ntmps44
  go_wp2_with (first | ((with_reducible refine gate_dst (N := 2) rfl ?_); refine box_event ?hg (N := 2) ?hd (cs := #[.int .i8 a0_0, .int .i8 a0_1, .int .i8 a0_2]) (t := 64) ?hr ?_; (case hd => rfl); (case hg => rfl); (case hr => first | (go_simp; done) | (go_simp; rfl)); intro gb383 hg w6 hbox hb; have n0_ := Aside0.mk (below_step (by repeat (first | (with_reducible first | exact HB.out | apply below_alloc | apply pw_below_drewN | apply below_drew1) | exact HB.out)) hb); have n1_ := Aside0.mk (hbox); have n2_ := Aside0.mk ((by rw [hg]; exact (below_size (by repeat (first | (with_reducible first | exact HB.out | apply below_alloc | apply pw_below_drewN | apply below_drew1) | exact HB.out))) : w.heap.size ≤ gb383)); have n3_ := Aside0.mk ((by rw [hg]; exact (below_size (by repeat (first | (with_reducible first | exact HB.out | apply below_alloc | apply pw_below_drewN | apply below_drew1) | exact HB.out))) : w.heap.size ≤ gb383)); clear HB; have HB := n0_; have BK383 := n1_; have GW383 := n2_; have GE383 := n3_; clear n0_ n1_ n2_ n3_; clear hb hbox hg) | ((with_reducible refine gate_dst (N := 3) rfl ?_); refine box_event ?hg (N := 3) ?hd (cs := #[.int .i8 a1_0, .int .i8 a1_1, .int .i8 a1_2]) (t := 64) ?hr ?_; (case hd => rfl); (case hg => rfl); (case hr => first | (go_simp; done) | (go_simp; rfl)); intro gb384 hg w7 hbox hb; have n0_ := Aside0.mk (blk_below (g := gb383) (o := .cells #[.int .i8 a0_0, .int .i8 a0_1, .int .i8 a0_2] 64 (0, 0)) (by (with_reducible repeat (first | refine blk_drewN ?_ _ | refine blk_drew ?_ | refine blk_alloc ?_ _)); exact BK383.out) hb); have n1_ := Aside0.mk (below_step (by repeat (first | (with_reducible first | exact HB.out | apply below_alloc | apply pw_below_drewN | apply below_drew1 | refine below_set ?_ GE383.out) | exact HB.out)) hb); have n2_ := Aside0.mk (hbox); have n3_ := Aside0.mk ((by rw [hg]; exact (below_size (by repeat (first | (with_reducible first | exact HB.out | apply below_alloc | apply pw_below_drewN | apply below_drew1 | refine below_set ?_ GE383.out) | exact HB.out))) : w.heap.size ≤ gb384)); have n4_ := Aside0.mk ((by rw [hg]; exact (below_size (by repeat (first | (with_reducible first | exact HB.out | apply below_alloc | apply pw_below_drewN | apply below_drew1 | refine below_set ?_ GE383.out) | exact HB.out))) : w.heap.size ≤ gb384)); have n5_ := Aside0.mk ((by rw [hg]; exact Nat.ne_of_lt (blk_lt (g := gb383) (o := .cells #[.int .i8 a0_0, .int .i8 a0_1, .int .i8 a0_2] 64 (0, 0)) (by (with_reducible repeat (first | refine blk_drewN ?_ _ | refine blk_drew ?_ | refine blk_alloc ?_ _)); exact BK383.out)) : gb383 ≠ gb384)); have n6_ := Aside0.mk ((by rw [hg]; exact Nat.ne_of_gt (blk_lt (g := gb383) (o := .cells #[.int .i8 a0_0, .int .i8 a0_1, .int .i8 a0_2] 64 (0, 0)) (by (with_reducible repeat (first | refine blk_drewN ?_ _ | refine blk_drew ?_ | refine blk_alloc ?_ _)); exact BK383.out)) : gb384 ≠ gb383)); clear BK383; clear HB; have BK383 := n0_; have HB := n1_; have BK384 := n2_; have GW384 := n3_; have GE384 := n4_; have NB383_384 := n5_; have NB384_383 := n6_; clear n0_ n1_ n2_ n3_ n4_ n5_ n6_; clear hb hbox hg; have hnb8 := NB383_384.out; have hnc8 := NB384_383.out; have hcz9_0 : w7.cell? ⟨gb383, 0, none⟩ = some (.int .i8 a0_0) := (blk_cell BK383.out 0).trans rfl; have hcz9_1 : w7.cell? ⟨gb383, 1, none⟩ = some (.int .i8 a0_1) := (blk_cell BK383.out 1).trans rfl; have hcz9_2 : w7.cell? ⟨gb383, 2, none⟩ = some (.int .i8 a0_2) := (blk_cell BK383.out 2).trans rfl; have hfz9_0 := blk_frozen BK383.out 0; have hfz9_1 := blk_frozen BK383.out 1; have hfz9_2 := blk_frozen BK383.out 2; have hcz10_0 : w7.cell? ⟨gb384, 0, none⟩ = some (.int .i8 a1_0) := (blk_cell BK384.out 0).trans rfl; have hcz10_1 : w7.cell? ⟨gb384, 1, none⟩ = some (.int .i8 a1_1) := (blk_cell BK384.out 1).trans rfl; have hcz10_2 : w7.cell? ⟨gb384, 2, none⟩ = some (.int .i8 a1_2) := (blk_cell BK384.out 2).trans rfl; have hfz10_0 := blk_frozen BK384.out 0; have hfz10_1 := blk_frozen BK384.out 1; have hfz10_2 := blk_frozen BK384.out 2))
  go_ret
  exact ⟨by first | rfl | (simp [errW_none, errW_some] <;> rfl) | (simp [*, errW_none, errW_some] <;> rfl), by repeat (first | (with_reducible first | exact HB.out | apply below_alloc | apply pw_below_drewN | apply below_drew1 | refine below_set ?_ GE383.out | refine below_set ?_ GE384.out) | exact HB.out)⟩
end Go.Proofs.Ytipdmnibjkdpcaa.P

namespace Go.Proofs.Ytipdmnibjkdpcaa.P
open Go.RowKit Go.Proofs.YtipdmnibjkdpcaaW.PrintWords Go.Proofs.YtipdmnibjkdpcaaW.PrintLast Go.Proofs.YtipdmnibjkdpcaaW.PrintMore
attribute [local go_sem] max2_int min2_int max_two min_two max_three min_three max_four min_four
set_option linter.unusedVariables false
set_option linter.unusedSimpArgs false
def laws_eqBoxS.l0 : Nat → List (S64) → List (S64) → Int → Option (Bool)
  | 0, _, _, _ => none
  | k + 1, x0, x1, x5 => if x5 < (x0.length : Int) then (if 0 ≤ x5 then (if x5 < (x1.length : Int) then ((laws_eqBox.f ((rd_T64 x0 x5).f0) ((rd_T64 x0 x5).f1) ((rd_T64 x0 x5).f2) ((rd_T64 x1 x5).f0) ((rd_T64 x1 x5).f1) ((rd_T64 x1 x5).f2)).bind fun t387 => (if t387 = true then (laws_eqBoxS.l0 k x0 x1 (wrap64 (x5 + 1))) else (some false))) else (none)) else (none)) else (some true)
def laws_eqBoxS.f (k : Nat) (l0 : List (S64)) (l1 : List (S64)) : Option (Bool) := if (l0.length : Int) = (l1.length : Int) then (laws_eqBoxS.l0 k l0 l1 0) else (some false)
def laws_eqBoxS.T6 : Bool × List (List Nat × List Nat) := (true, [([], []), ([], []), ([0, 1], [0, 1]), ([2], [2]), ([], []), ([], []), ([4, 5], [4, 5]), ([6], [6]), ([3, 7], [3, 7]), ([8], [8])])
def laws_eqBoxS.B6 : List Nat := [0, 0, 3, 7, 0, 0, 48, 112, 255, 511]
theorem laws_eqBoxS.tab6 : rtab .any (opsOf Try.f21 6) = laws_eqBoxS.T6 := by kernel_rfl
theorem laws_eqBoxS.bits6 : waitsOk laws_eqBoxS.T6.2 laws_eqBoxS.B6 = true := by kernel_rfl
set_option maxHeartbeats 8000000 in
set_option maxRecDepth 100000 in
theorem laws_eqBoxS.calls (k : Nat) (A0 : Option Addr) (c0 : Nat) (l0 : List (S64)) (A1 : Option Addr) (c1 : Nat) (l1 : List (S64)) (r : Bool) (w : World) (hr0 : Kd.C k64 w A0 l0.length l0) (hc0 : l0.length ≤ c0) (hr1 : Kd.C k64 w A1 l1.length l1) (hc1 : l1.length ≤ c1) (h : laws_eqBoxS.f k l0 l1 = some r) :
    Calls Try.prog 21 #[.slice A0 l0.length c0, .slice A1 l1.length c1] w fun e w' => e = .returned (.bool r) ∧ Below w.heap.size w w' := by
  have hu64 := Try.underlying64
  have HR0 := Aside0.mk hr0
  have HC0 := Aside0.mk hc0
  clear hr0 hc0
  have HR1 := Aside0.mk hr1
  have HC1 := Aside0.mk hc1
  clear hr1 hc1
  have HB := Aside0.mk (Below.refl w.heap.size w)
  have H : (if (l0.length : Int) = (l1.length : Int) then (laws_eqBoxS.l0 k l0 l1 0) else (some false)) = some r := h
  clear h
  by_cases c3 : (l0.length : Int) = (l1.length : Int)
  rotate_left
  · rw [if_neg c3] at H
    have c3b0 : ((l0.length : Int) == (l1.length : Int)) = false := beq_eq_false_iff_ne.mpr c3
    have c3b1 : ((l0.length : Int) != (l1.length : Int)) = true := bne_iff_ne.mpr c3
    have c3b2 : (l0.length == l1.length) = false := by first | simpa using c3 | (simp at c3 ⊢; omega)
    obtain rfl := Option.some.inj H
    go_enter Try.func21, Try.ntmps21
    go_wp2
    go_ret
    exact ⟨by first | rfl | (simp [errW_none, errW_some] <;> rfl) | (simp [*, errW_none, errW_some] <;> rfl), by repeat (first | (with_reducible first | exact HB.out | apply below_alloc | apply pw_below_drewN | apply below_drew1) | exact HB.out)⟩
  rw [if_pos c3] at H
  have c3b0 : ((l0.length : Int) == (l1.length : Int)) = true := beq_iff_eq.mpr c3
  have c3b1 : ((l0.length : Int) != (l1.length : Int)) = false := bne_eq_false_iff_eq.mpr c3
  have c3b2 : (l0.length == l1.length) = true := by first | simpa using c3 | (simp at c3 ⊢; omega)
  clear c3
  have H' := Aside0.mk H
  clear H
  go_enter Try.func21, Try.ntmps21
  go_wp2
  go_loopg [5] k (fun kq v5 w' => ∃ (x5_1 : Int), v5 = .int .i64 x5_1 ∧ Aside0 (laws_eqBoxS.l0 kq l0 l1 x5_1 = some r) ∧ Aside0 (kq ≤ k) ∧ Aside0 (Below w.heap.size w w'))
  case atStart => exact ⟨(0), (by first | rfl | (simp; done) | (simp [*]; done)), H', ⟨Nat.le_refl _⟩, ⟨by repeat (first | (with_reducible first | exact HB.out | apply below_alloc | apply pw_below_drewN | apply below_drew1) | exact HB.out)⟩⟩
  case round =>
    clear H'
    try clear c1
    try clear c2
    try clear p2
    try clear c3
    try clear c3b0
    try clear c3b1
    try clear c3b2
    obtain ⟨x5_1, rfl, HA, HK1, HB⟩ := hrel
    cases gk with
    | zero => exact absurd HA.out (by simp [laws_eqBoxS.l0])
    | succ k1 =>
      have H := HA.out
      clear HA
      simp only [laws_eqBoxS.l0] at H
      by_cases c4 : x5_1 < (l0.length : Int)
      rotate_left
      · rw [if_neg c4] at H
        have c4b0 : decide (x5_1 < (l0.length : Int)) = false := decide_eq_false c4
        clear c4
        obtain rfl := Option.some.inj H
        go_wp2
        go_ret
        exact ⟨by first | rfl | (simp [errW_none, errW_some] <;> rfl) | (simp [*, errW_none, errW_some] <;> rfl), by repeat (first | (with_reducible first | exact HB.out | apply below_alloc | apply pw_below_drewN | apply below_drew1) | exact HB.out)⟩
      rw [if_pos c4] at H
      have c4b0 : decide (x5_1 < (l0.length : Int)) = true := decide_eq_true c4
      clear c4
      by_cases c5 : 0 ≤ x5_1
      rotate_left
      · rw [if_neg c5] at H
        exact absurd H (by simp)
      rw [if_pos c5] at H
      have c5b0 : decide (0 ≤ x5_1) = true := decide_eq_true c5
      clear c5
      by_cases c6 : x5_1 < (l1.length : Int)
      rotate_left
      · rw [if_neg c6] at H
        exact absurd H (by simp)
      rw [if_pos c6] at H
      have c6b0 : decide (x5_1 < (l1.length : Int)) = true := decide_eq_true c6
      clear c6
      replace H := Option.bind_eq_some_iff.mp H
      obtain ⟨t387, A70, H⟩ := H
      replace H : (if t387 = true then (laws_eqBoxS.l0 k1 l0 l1 (wrap64 (x5_1 + 1))) else (some false)) = some r := H
      have A7 := Aside0.mk A70
      clear A70
      by_cases c8 : t387 = true
      rotate_left
      · replace c8 := Bool.eq_false_iff.mpr c8
        subst c8
        have H1 : (some false) = some r := by rw [if_neg (show ¬ (false = true) by decide)] at H; exact H
        clear H
        have H := H1
        clear H1
        obtain rfl := Option.some.inj H
        try go_wp2
        have n0_ := Aside0.mk (below_drew1 HB.out)
        clear HB
        have HB := n0_
        clear n0_
        have p385 : 0 ≤ (x5_1 : Int) := of_decide_eq_true (by first | (with_reducible assumption) | assumption)
        have q385 : x5_1 < (l0.length : Int) := of_decide_eq_true (by first | (with_reducible assumption) | assumption)
        obtain ⟨ad385, e385, hx385_0, hx385_1, hx385_2⟩ := at_T64 HR0.out x5_1 p385 q385
        have hw385_2 := hx385_2
        have hw385_1 := hx385_1
        have hw385_0 := hx385_0
        cases e385
        replace hx385_0 := (HB.out.cell (World.block_lt_of_cell? w _ hx385_0)).trans hx385_0
        replace hx385_1 := (HB.out.cell (World.block_lt_of_cell? w _ hx385_1)).trans hx385_1
        replace hx385_2 := (HB.out.cell (World.block_lt_of_cell? w _ hx385_2)).trans hx385_2
        replace p385 := eq_true p385
        replace q385 := eq_true q385
        have p386 : 0 ≤ (x5_1 : Int) := of_decide_eq_true (by first | (with_reducible assumption) | assumption)
        have q386 : x5_1 < (l1.length : Int) := of_decide_eq_true (by first | (with_reducible assumption) | assumption)
        obtain ⟨ad386, e386, hx386_0, hx386_1, hx386_2⟩ := at_T64 HR1.out x5_1 p386 q386
        have hw386_2 := hx386_2
        have hw386_1 := hx386_1
        have hw386_0 := hx386_0
        cases e386
        replace hx386_0 := (HB.out.cell (World.block_lt_of_cell? w _ hx386_0)).trans hx386_0
        replace hx386_1 := (HB.out.cell (World.block_lt_of_cell? w _ hx386_1)).trans hx386_1
        replace hx386_2 := (HB.out.cell (World.block_lt_of_cell? w _ hx386_2)).trans hx386_2
        replace p386 := eq_true p386
        replace q386 := eq_true q386
        refine start_ (n := 10) (S := fun w' => w'.cell? (ad385.add ((x5_1).toNat * 3)) = some (.int .i8 ((rd_T64 l0 x5_1).f0)) ∧ w'.cell? ⟨(ad385.add ((x5_1).toNat * 3)).block, (ad385.add ((x5_1).toNat * 3)).off + 1, none⟩ = some (.int .i8 ((rd_T64 l0 x5_1).f1)) ∧ w'.cell? ⟨(ad385.add ((x5_1).toNat * 3)).block, (ad385.add ((x5_1).toNat * 3)).off + 2, none⟩ = some (.int .i8 ((rd_T64 l0 x5_1).f2)) ∧ w'.cell? (ad386.add ((x5_1).toNat * 3)) = some (.int .i8 ((rd_T64 l1 x5_1).f0)) ∧ w'.cell? ⟨(ad386.add ((x5_1).toNat * 3)).block, (ad386.add ((x5_1).toNat * 3)).off + 1, none⟩ = some (.int .i8 ((rd_T64 l1 x5_1).f1)) ∧ w'.cell? ⟨(ad386.add ((x5_1).toNat * 3)).block, (ad386.add ((x5_1).toNat * 3)).off + 2, none⟩ = some (.int .i8 ((rd_T64 l1 x5_1).f2))) (ds := []) #[false, false, false, false, false, false, false, false, false, false] (by kernel_rfl) rfl rfl ⟨((HB.out.cell (World.block_lt_of_cell? w _ hw385_0)).trans hw385_0), ((HB.out.cell (World.block_lt_of_cell? w _ hw385_1)).trans hw385_1), ((HB.out.cell (World.block_lt_of_cell? w _ hw385_2)).trans hw385_2), ((HB.out.cell (World.block_lt_of_cell? w _ hw386_0)).trans hw386_0), ((HB.out.cell (World.block_lt_of_cell? w _ hw386_1)).trans hw386_1), ((HB.out.cell (World.block_lt_of_cell? w _ hw386_2)).trans hw386_2)⟩ (fun hHeld => ?_); refine with_tabW laws_eqBoxS.tab6 laws_eqBoxS.bits6 (fun HT_ HW_ => ?_)
        generalize wr.drew = w11 at HB hx385_0 hx385_1 hx385_2 hx386_0 hx386_1 hx386_2 hHeld ⊢
        refine pure_ (i := 0) (N := some 17) (v := ?_) (a' := ?_) #[true, false, false, false, false, false, false, false, false, false] rfl rfl (any_of HT_.out (by kernel_rfl)) (fun _ _ _ h => h) (Or.inl ⟨by rfl, ?_⟩) ?_ ?_
        rotate_left
        · intro w'
          go_simp
          with_reducible rfl
        rotate_left
        · simp only [Act.put, List.setIfInBounds_toArray, List.set_cons_zero, List.set_cons_succ, i64_w, i32_w]
          rfl
        refine pure_ (i := 1) (N := some 18) (v := ?_) (a' := ?_) #[true, true, false, false, false, false, false, false, false, false] rfl rfl (any_of HT_.out (by kernel_rfl)) (fun _ _ _ h => h) (Or.inl ⟨by rfl, ?_⟩) ?_ ?_
        rotate_left
        · intro w'
          go_simp
          with_reducible rfl
        rotate_left
        · simp only [Act.put, List.setIfInBounds_toArray, List.set_cons_zero, List.set_cons_succ, i64_w, i32_w]
          rfl
        refine pure_ (i := 2) (N := some 19) (v := ?_) (a' := ?_) #[true, true, true, false, false, false, false, false, false, false] rfl rfl (any_of HT_.out (by kernel_rfl)) (fun _ _ _ h => h) (Or.inl ⟨by rfl, ?_⟩) ?_ ?_
        rotate_left
        · intro w'
          go_simp
          with_reducible rfl
        rotate_left
        · simp only [Act.put, List.setIfInBounds_toArray, List.set_cons_zero, List.set_cons_succ, i64_w, i32_w]
          rfl
        refine pure_ (i := 4) (N := some 21) (v := ?_) (a' := ?_) #[true, true, true, false, true, false, false, false, false, false] rfl rfl (any_of HT_.out (by kernel_rfl)) (fun _ _ _ h => h) (Or.inl ⟨by rfl, ?_⟩) ?_ ?_
        rotate_left
        · intro w'
          go_simp
          with_reducible rfl
        rotate_left
        · simp only [Act.put, List.setIfInBounds_toArray, List.set_cons_zero, List.set_cons_succ, i64_w, i32_w]
          rfl
        refine pure_ (i := 5) (N := some 22) (v := ?_) (a' := ?_) #[true, true, true, false, true, true, false, false, false, false] rfl rfl (any_of HT_.out (by kernel_rfl)) (fun _ _ _ h => h) (Or.inl ⟨by rfl, ?_⟩) ?_ ?_
        rotate_left
        · intro w'
          go_simp
          with_reducible rfl
        rotate_left
        · simp only [Act.put, List.setIfInBounds_toArray, List.set_cons_zero, List.set_cons_succ, i64_w, i32_w]
          rfl
        refine pure_ (i := 6) (N := some 23) (v := ?_) (a' := ?_) #[true, true, true, false, true, true, true, false, false, false] rfl rfl (any_of HT_.out (by kernel_rfl)) (fun _ _ _ h => h) (Or.inl ⟨by rfl, ?_⟩) ?_ ?_
        rotate_left
        · intro w'
          go_simp
          with_reducible rfl
        rotate_left
        · simp only [Act.put, List.setIfInBounds_toArray, List.set_cons_zero, List.set_cons_succ, i64_w, i32_w]
          rfl
        refine take_ (i := 3) (N := some 20) (v := ?_) (a' := ?_) #[true, true, true, true, true, true, true, false, false, false] rfl rfl (take_ofW HT_.out HW_.out (by kernel_rfl)) (fun _ _ _ h => h) (Or.inl ⟨by rfl, ?_⟩) hHeld ?_ ?_
        rotate_left
        · rintro w' ⟨s0, s1, s2, s3, s4, s5⟩
          go_simp
          with_reducible rfl
        rotate_left
        · simp only [Act.put, List.setIfInBounds_toArray, List.set_cons_zero, List.set_cons_succ, i64_w, i32_w]
          rfl
        refine take_ (i := 7) (N := some 24) (v := ?_) (a' := ?_) #[true, true, true, true, true, true, true, true, false, false] rfl rfl (take_ofW HT_.out HW_.out (by kernel_rfl)) (fun _ _ _ h => h) (Or.inl ⟨by rfl, ?_⟩) hHeld ?_ ?_
        rotate_left
        · rintro w' ⟨s0, s1, s2, s3, s4, s5⟩
          go_simp
          with_reducible rfl
        rotate_left
        · simp only [Act.put, List.setIfInBounds_toArray, List.set_cons_zero, List.set_cons_succ, i64_w, i32_w]
          rfl
        refine one_ (i := 8) (N := some 25) #[true, true, true, true, true, true, true, true, true, false] rfl rfl (one_of HT_.out (by kernel_rfl)) (by decide) (fun K hK => ?_)
        refine goes_ Try.func44 (by kernel_rfl) rfl #[.agg #[.int .i8 ((rd_T64 l0 x5_1).f0), .int .i8 ((rd_T64 l0 x5_1).f1), .int .i8 ((rd_T64 l0 x5_1).f2)], .agg #[.int .i8 ((rd_T64 l1 x5_1).f0), .int .i8 ((rd_T64 l1 x5_1).f1), .int .i8 ((rd_T64 l1 x5_1).f2)]] (by rfl) rfl rfl (by (try simp only [List.map_toArray, List.map_cons, List.map_nil]); first | done | rfl | (simp only [List.length_drop, List.length_take]; rfl)) ?_
        with_reducible refine (laws_eqBox.calls ((rd_T64 l0 x5_1).f0) ((rd_T64 l0 x5_1).f1) ((rd_T64 l0 x5_1).f2) ((rd_T64 l1 x5_1).f0) ((rd_T64 l1 x5_1).f1) ((rd_T64 l1 x5_1).f2) false _ A7.out).mono ?_
        rintro e w12 ⟨rfl, hb⟩
        refine ⟨_, rfl, ?_⟩
        have n0_ := Aside0.mk (below_step (by repeat (first | (with_reducible first | exact HB.out | apply below_alloc | apply pw_below_drewN | apply below_drew1) | exact HB.out)) hb)
        clear HB
        have HB := n0_
        clear n0_
        (try clear hb)
        (try clear hb2)
        (try clear hk)
        (try clear hi)
        refine hK.out _ _ ⟨((HB.out.cell (World.block_lt_of_cell? w _ hw385_0)).trans hw385_0), ((HB.out.cell (World.block_lt_of_cell? w _ hw385_1)).trans hw385_1), ((HB.out.cell (World.block_lt_of_cell? w _ hw385_2)).trans hw385_2), ((HB.out.cell (World.block_lt_of_cell? w _ hw386_0)).trans hw386_0), ((HB.out.cell (World.block_lt_of_cell? w _ hw386_1)).trans hw386_1), ((HB.out.cell (World.block_lt_of_cell? w _ hw386_2)).trans hw386_2)⟩ (fun hHeld => ?_)
        clear hK K
        refine norm_ (a' := ?_) ?_ ?_
        rotate_left
        · show Act.put _ (some 25) _ = _
          simp only [Act.put, List.setIfInBounds_toArray, List.set_cons_zero, List.set_cons_succ, i64_w, i32_w]
          rfl
        refine pure_ (i := 9) (N := some 26) (v := ?_) (a' := ?_) #[true, true, true, true, true, true, true, true, true, true] rfl rfl (any_of HT_.out (by kernel_rfl)) (fun _ _ _ h => h) (Or.inl ⟨by rfl, ?_⟩) ?_ ?_
        rotate_left
        · intro w'
          go_simp
          with_reducible rfl
        rotate_left
        · simp only [Act.put, List.setIfInBounds_toArray, List.set_cons_zero, List.set_cons_succ, i64_w, i32_w]
          rfl
        refine done_ (done_of HT_.out (by kernel_rfl)) ?_
        try go_wp2
        go_ret
        exact ⟨by first | rfl | (simp [errW_none, errW_some] <;> rfl) | (simp [*, errW_none, errW_some] <;> rfl), by repeat (first | (with_reducible first | exact HB.out | apply below_alloc | apply pw_below_drewN | apply below_drew1) | exact HB.out)⟩
      subst c8
      have H1 : (laws_eqBoxS.l0 k1 l0 l1 (wrap64 (x5_1 + 1))) = some r := by rw [if_pos rfl] at H; exact H
      clear H
      have H := H1
      clear H1
      have H' := Aside0.mk H
      clear H
      try go_wp2
      have n0_ := Aside0.mk (below_drew1 HB.out)
      clear HB
      have HB := n0_
      clear n0_
      have p385 : 0 ≤ (x5_1 : Int) := of_decide_eq_true (by first | (with_reducible assumption) | assumption)
      have q385 : x5_1 < (l0.length : Int) := of_decide_eq_true (by first | (with_reducible assumption) | assumption)
      obtain ⟨ad385, e385, hx385_0, hx385_1, hx385_2⟩ := at_T64 HR0.out x5_1 p385 q385
      have hw385_2 := hx385_2
      have hw385_1 := hx385_1
      have hw385_0 := hx385_0
      cases e385
      replace hx385_0 := (HB.out.cell (World.block_lt_of_cell? w _ hx385_0)).trans hx385_0
      replace hx385_1 := (HB.out.cell (World.block_lt_of_cell? w _ hx385_1)).trans hx385_1
      replace hx385_2 := (HB.out.cell (World.block_lt_of_cell? w _ hx385_2)).trans hx385_2
      replace p385 := eq_true p385
      replace q385 := eq_true q385
      have p386 : 0 ≤ (x5_1 : Int) := of_decide_eq_true (by first | (with_reducible assumption) | assumption)
      have q386 : x5_1 < (l1.length : Int) := of_decide_eq_true (by first | (with_reducible assumption) | assumption)
      obtain ⟨ad386, e386, hx386_0, hx386_1, hx386_2⟩ := at_T64 HR1.out x5_1 p386 q386
      have hw386_2 := hx386_2
      have hw386_1 := hx386_1
      have hw386_0 := hx386_0
      cases e386
      replace hx386_0 := (HB.out.cell (World.block_lt_of_cell? w _ hx386_0)).trans hx386_0
      replace hx386_1 := (HB.out.cell (World.block_lt_of_cell? w _ hx386_1)).trans hx386_1
      replace hx386_2 := (HB.out.cell (World.block_lt_of_cell? w _ hx386_2)).trans hx386_2
      replace p386 := eq_true p386
      replace q386 := eq_true q386
      refine start_ (n := 10) (S := fun w' => w'.cell? (ad385.add ((x5_1).toNat * 3)) = some (.int .i8 ((rd_T64 l0 x5_1).f0)) ∧ w'.cell? ⟨(ad385.add ((x5_1).toNat * 3)).block, (ad385.add ((x5_1).toNat * 3)).off + 1, none⟩ = some (.int .i8 ((rd_T64 l0 x5_1).f1)) ∧ w'.cell? ⟨(ad385.add ((x5_1).toNat * 3)).block, (ad385.add ((x5_1).toNat * 3)).off + 2, none⟩ = some (.int .i8 ((rd_T64 l0 x5_1).f2)) ∧ w'.cell? (ad386.add ((x5_1).toNat * 3)) = some (.int .i8 ((rd_T64 l1 x5_1).f0)) ∧ w'.cell? ⟨(ad386.add ((x5_1).toNat * 3)).block, (ad386.add ((x5_1).toNat * 3)).off + 1, none⟩ = some (.int .i8 ((rd_T64 l1 x5_1).f1)) ∧ w'.cell? ⟨(ad386.add ((x5_1).toNat * 3)).block, (ad386.add ((x5_1).toNat * 3)).off + 2, none⟩ = some (.int .i8 ((rd_T64 l1 x5_1).f2))) (ds := []) #[false, false, false, false, false, false, false, false, false, false] (by kernel_rfl) rfl rfl ⟨((HB.out.cell (World.block_lt_of_cell? w _ hw385_0)).trans hw385_0), ((HB.out.cell (World.block_lt_of_cell? w _ hw385_1)).trans hw385_1), ((HB.out.cell (World.block_lt_of_cell? w _ hw385_2)).trans hw385_2), ((HB.out.cell (World.block_lt_of_cell? w _ hw386_0)).trans hw386_0), ((HB.out.cell (World.block_lt_of_cell? w _ hw386_1)).trans hw386_1), ((HB.out.cell (World.block_lt_of_cell? w _ hw386_2)).trans hw386_2)⟩ (fun hHeld => ?_); refine with_tabW laws_eqBoxS.tab6 laws_eqBoxS.bits6 (fun HT_ HW_ => ?_)
      generalize wr.drew = w9 at HB hx385_0 hx385_1 hx385_2 hx386_0 hx386_1 hx386_2 hHeld ⊢
      refine pure_ (i := 0) (N := some 17) (v := ?_) (a' := ?_) #[true, false, false, false, false, false, false, false, false, false] rfl rfl (any_of HT_.out (by kernel_rfl)) (fun _ _ _ h => h) (Or.inl ⟨by rfl, ?_⟩) ?_ ?_
      rotate_left
      · intro w'
        go_simp
        with_reducible rfl
      rotate_left
      · simp only [Act.put, List.setIfInBounds_toArray, List.set_cons_zero, List.set_cons_succ, i64_w, i32_w]
        rfl
      refine pure_ (i := 1) (N := some 18) (v := ?_) (a' := ?_) #[true, true, false, false, false, false, false, false, false, false] rfl rfl (any_of HT_.out (by kernel_rfl)) (fun _ _ _ h => h) (Or.inl ⟨by rfl, ?_⟩) ?_ ?_
      rotate_left
      · intro w'
        go_simp
        with_reducible rfl
      rotate_left
      · simp only [Act.put, List.setIfInBounds_toArray, List.set_cons_zero, List.set_cons_succ, i64_w, i32_w]
        rfl
      refine pure_ (i := 2) (N := some 19) (v := ?_) (a' := ?_) #[true, true, true, false, false, false, false, false, false, false] rfl rfl (any_of HT_.out (by kernel_rfl)) (fun _ _ _ h => h) (Or.inl ⟨by rfl, ?_⟩) ?_ ?_
      rotate_left
      · intro w'
        go_simp
        with_reducible rfl
      rotate_left
      · simp only [Act.put, List.setIfInBounds_toArray, List.set_cons_zero, List.set_cons_succ, i64_w, i32_w]
        rfl
      refine pure_ (i := 4) (N := some 21) (v := ?_) (a' := ?_) #[true, true, true, false, true, false, false, false, false, false] rfl rfl (any_of HT_.out (by kernel_rfl)) (fun _ _ _ h => h) (Or.inl ⟨by rfl, ?_⟩) ?_ ?_
      rotate_left
      · intro w'
        go_simp
        with_reducible rfl
      rotate_left
      · simp only [Act.put, List.setIfInBounds_toArray, List.set_cons_zero, List.set_cons_succ, i64_w, i32_w]
        rfl
      refine pure_ (i := 5) (N := some 22) (v := ?_) (a' := ?_) #[true, true, true, false, true, true, false, false, false, false] rfl rfl (any_of HT_.out (by kernel_rfl)) (fun _ _ _ h => h) (Or.inl ⟨by rfl, ?_⟩) ?_ ?_
      rotate_left
      · intro w'
        go_simp
        with_reducible rfl
      rotate_left
      · simp only [Act.put, List.setIfInBounds_toArray, List.set_cons_zero, List.set_cons_succ, i64_w, i32_w]
        rfl
      refine pure_ (i := 6) (N := some 23) (v := ?_) (a' := ?_) #[true, true, true, false, true, true, true, false, false, false] rfl rfl (any_of HT_.out (by kernel_rfl)) (fun _ _ _ h => h) (Or.inl ⟨by rfl, ?_⟩) ?_ ?_
      rotate_left
      · intro w'
        go_simp
        with_reducible rfl
      rotate_left
      · simp only [Act.put, List.setIfInBounds_toArray, List.set_cons_zero, List.set_cons_succ, i64_w, i32_w]
        rfl
      refine take_ (i := 3) (N := some 20) (v := ?_) (a' := ?_) #[true, true, true, true, true, true, true, false, false, false] rfl rfl (take_ofW HT_.out HW_.out (by kernel_rfl)) (fun _ _ _ h => h) (Or.inl ⟨by rfl, ?_⟩) hHeld ?_ ?_
      rotate_left
      · rintro w' ⟨s0, s1, s2, s3, s4, s5⟩
        go_simp
        with_reducible rfl
      rotate_left
      · simp only [Act.put, List.setIfInBounds_toArray, List.set_cons_zero, List.set_cons_succ, i64_w, i32_w]
        rfl
      refine take_ (i := 7) (N := some 24) (v := ?_) (a' := ?_) #[true, true, true, true, true, true, true, true, false, false] rfl rfl (take_ofW HT_.out HW_.out (by kernel_rfl)) (fun _ _ _ h => h) (Or.inl ⟨by rfl, ?_⟩) hHeld ?_ ?_
      rotate_left
      · rintro w' ⟨s0, s1, s2, s3, s4, s5⟩
        go_simp
        with_reducible rfl
      rotate_left
      · simp only [Act.put, List.setIfInBounds_toArray, List.set_cons_zero, List.set_cons_succ, i64_w, i32_w]
        rfl
      refine one_ (i := 8) (N := some 25) #[true, true, true, true, true, true, true, true, true, false] rfl rfl (one_of HT_.out (by kernel_rfl)) (by decide) (fun K hK => ?_)
      refine goes_ Try.func44 (by kernel_rfl) rfl #[.agg #[.int .i8 ((rd_T64 l0 x5_1).f0), .int .i8 ((rd_T64 l0 x5_1).f1), .int .i8 ((rd_T64 l0 x5_1).f2)], .agg #[.int .i8 ((rd_T64 l1 x5_1).f0), .int .i8 ((rd_T64 l1 x5_1).f1), .int .i8 ((rd_T64 l1 x5_1).f2)]] (by rfl) rfl rfl (by (try simp only [List.map_toArray, List.map_cons, List.map_nil]); first | done | rfl | (simp only [List.length_drop, List.length_take]; rfl)) ?_
      with_reducible refine (laws_eqBox.calls ((rd_T64 l0 x5_1).f0) ((rd_T64 l0 x5_1).f1) ((rd_T64 l0 x5_1).f2) ((rd_T64 l1 x5_1).f0) ((rd_T64 l1 x5_1).f1) ((rd_T64 l1 x5_1).f2) true _ A7.out).mono ?_
      rintro e w10 ⟨rfl, hb⟩
      refine ⟨_, rfl, ?_⟩
      have n0_ := Aside0.mk (below_step (by repeat (first | (with_reducible first | exact HB.out | apply below_alloc | apply pw_below_drewN | apply below_drew1) | exact HB.out)) hb)
      clear HB
      have HB := n0_
      clear n0_
      (try clear hb)
      (try clear hb2)
      (try clear hk)
      (try clear hi)
      refine hK.out _ _ ⟨((HB.out.cell (World.block_lt_of_cell? w _ hw385_0)).trans hw385_0), ((HB.out.cell (World.block_lt_of_cell? w _ hw385_1)).trans hw385_1), ((HB.out.cell (World.block_lt_of_cell? w _ hw385_2)).trans hw385_2), ((HB.out.cell (World.block_lt_of_cell? w _ hw386_0)).trans hw386_0), ((HB.out.cell (World.block_lt_of_cell? w _ hw386_1)).trans hw386_1), ((HB.out.cell (World.block_lt_of_cell? w _ hw386_2)).trans hw386_2)⟩ (fun hHeld => ?_)
      clear hK K
      refine norm_ (a' := ?_) ?_ ?_
      rotate_left
      · show Act.put _ (some 25) _ = _
        simp only [Act.put, List.setIfInBounds_toArray, List.set_cons_zero, List.set_cons_succ, i64_w, i32_w]
        rfl
      refine pure_ (i := 9) (N := some 26) (v := ?_) (a' := ?_) #[true, true, true, true, true, true, true, true, true, true] rfl rfl (any_of HT_.out (by kernel_rfl)) (fun _ _ _ h => h) (Or.inl ⟨by rfl, ?_⟩) ?_ ?_
      rotate_left
      · intro w'
        go_simp
        with_reducible rfl
      rotate_left
      · simp only [Act.put, List.setIfInBounds_toArray, List.set_cons_zero, List.set_cons_succ, i64_w, i32_w]
        rfl
      refine done_ (done_of HT_.out (by kernel_rfl)) ?_
      try go_wp2
      go_roundg k1
      case measure => have := HK1.out; omega
      case rel => exact ⟨(wrap64 (x5_1 + 1)), (by first | rfl | (simp; done) | (simp [*]; done)), H', ⟨by have := HK1.out; omega⟩, ⟨by repeat (first | (with_reducible first | exact HB.out | apply below_alloc | apply pw_below_drewN | apply below_drew1) | exact HB.out)⟩⟩
end Go.Proofs.Ytipdmnibjkdpcaa.P

namespace Go.Proofs.Ytipdmnibjkdpcaa.P
open Go.RowKit Go.Proofs.YtipdmnibjkdpcaaW.PrintWords Go.Proofs.YtipdmnibjkdpcaaW.PrintLast Go.Proofs.YtipdmnibjkdpcaaW.PrintMore
attribute [local go_sem] max2_int min2_int max_two min_two max_three min_three max_four min_four
set_option linter.unusedVariables false
set_option linter.unusedSimpArgs false
def laws_markBoxS.l0 : Nat → List (S64) → Int → Int → Option (Int × (List (S64)))
  | 0, _, _, _ => none
  | k + 1, x0, x1, x5 => if x5 < (x0.length : Int) then (if 0 ≤ x5 then ((some (x0.set (x5 : Int).toNat (⟨IntKind.i8.wrap (x1), (rd_T64 x0 x5).f1, (rd_T64 x0 x5).f2⟩ : S64) : List (S64))).bind fun y388 => ((some (y388.set (x5 : Int).toNat (⟨(rd_T64 y388 x5).f0, IntKind.i8.wrap (wrap64 (x1 + 1)), (rd_T64 y388 x5).f2⟩ : S64) : List (S64))).bind fun y389 => (laws_markBoxS.l0 k (y389.set (x5 : Int).toNat (⟨(rd_T64 y389 x5).f0, (rd_T64 y389 x5).f1, IntKind.i8.wrap (wrap64 ((wrap64 (x1 + 1)) + 1))⟩ : S64)) (wrap64 ((wrap64 ((wrap64 (x1 + 1)) + 1)) + 1)) (wrap64 (x5 + 1))))) else (none)) else (some (x1, x0))
def laws_markBoxS.f (k : Nat) (l0 : List (S64)) (a1 : Int) : Option (Int × (List (S64))) := laws_markBoxS.l0 k l0 a1 0
set_option maxHeartbeats 8000000 in
set_option maxRecDepth 100000 in
theorem laws_markBoxS.calls (k : Nat) (P0_ : Nat → Prop) (u9000_ : Value) (l0 : List (S64)) (a1 : Int) (r1 : Int) (r2 : List (S64)) (w0 w : World) (hB : Below w0.heap.size w0 w) (ho0 : Kd.R k64 64 w w0.heap.size P0_ u9000_ l0) (h : laws_markBoxS.f k l0 a1 = some (r1, r2)) :
    Calls Try.prog 22 #[u9000_, .int .i64 a1] w fun e w' => e = .returned (.int .i64 r1) ∧ Kd.R k64 64 w' w0.heap.size (fun k_ => (P0_ k_ ∨ w.heap.size ≤ k_)) u9000_ r2 ∧ Below w0.heap.size w0 w' ∧ Kept w w' (fun k_ => P0_ k_) := by
  have HO0 := Aside0.mk (show Kd.R k64 64 w w0.heap.size (fun k_ => (P0_ k_ ∨ w.heap.size ≤ k_)) u9000_ l0 from Kd.R_mono ho0 (fun k_ hk => (.inl hk)))
  have HK := Aside0.mk (Kept.refl w (fun k_ => P0_ k_))
  have HW0 := Aside0.mk hB.size
  have HB := Aside0.mk hB
  clear hB
  have H : (laws_markBoxS.l0 k l0 a1 0) = some (r1, r2) := h
  clear h
  have H' := Aside0.mk H
  clear H
  go_enter Try.func22, Try.ntmps22
  go_wp2
  go_loopg [1, 5] k (fun kq v1 v5 w' => ∃ (x0_1 : List (S64)) (x1_1 : Int) (x5_1 : Int), v1 = .int .i64 x1_1 ∧ v5 = .int .i64 x5_1 ∧ Aside0 (laws_markBoxS.l0 kq x0_1 x1_1 x5_1 = some (r1, r2)) ∧ Aside0 (kq ≤ k) ∧ Aside0 (Kd.R k64 64 w' w0.heap.size (fun k_ => (P0_ k_ ∨ w.heap.size ≤ k_)) u9000_ x0_1) ∧ Aside0 (Kept w w' (fun k_ => P0_ k_)) ∧ Aside0 (Below w0.heap.size w0 w'))
  case atStart => exact ⟨(l0), (a1), (0), (by first | rfl | (simp; done) | (simp [*]; done)), (by first | rfl | (simp; done) | (simp [*]; done)), H', ⟨Nat.le_refl _⟩, ⟨by (with_reducible repeat (first | apply Kd.R_alloc | apply Kd.R_drewN | apply Kd.R_drew)); exact HO0.out⟩, ⟨by repeat (first | (with_reducible first | exact HK.out | apply Kept.alloc | apply Kept.drewN | apply Kept.drew) | exact HK.out)⟩, ⟨by repeat (first | (with_reducible first | exact HB.out | apply below_alloc | apply pw_below_drewN | apply below_drew1) | exact HB.out)⟩⟩
  case round =>
    clear H'
    try clear c2
    try clear p2
    obtain ⟨x0_1, x1_1, x5_1, rfl, rfl, HA, HK1, HO_0, HK, HB⟩ := hrel
    cases gk with
    | zero => exact absurd HA.out (by simp [laws_markBoxS.l0])
    | succ k1 =>
      have H := HA.out
      clear HA
      simp only [laws_markBoxS.l0] at H
      by_cases c3 : x5_1 < (x0_1.length : Int)
      rotate_left
      · rw [if_neg c3] at H
        have c3b0 : decide (x5_1 < (x0_1.length : Int)) = false := decide_eq_false c3
        clear c3
        simp only [Option.some.injEq, Prod.mk.injEq] at H
        obtain ⟨rfl, rfl⟩ := H
        obtain ⟨Ao15, co15, eo15⟩ := Kd.R_slice HO_0.out
        subst eo15
        go_wp2
        go_ret
        exact ⟨by first | rfl | (simp [errW_none, errW_some] <;> rfl) | (simp [*, errW_none, errW_some] <;> rfl), by (with_reducible repeat (first | apply Kd.R_alloc | apply Kd.R_drewN | apply Kd.R_drew)); exact HO_0.out, by repeat (first | (with_reducible first | exact HB.out | apply below_alloc | apply pw_below_drewN | apply below_drew1) | exact HB.out), by repeat (first | (with_reducible first | exact HK.out | apply Kept.alloc | apply Kept.drewN | apply Kept.drew) | exact HK.out)⟩
      rw [if_pos c3] at H
      have c3b0 : decide (x5_1 < (x0_1.length : Int)) = true := decide_eq_true c3
      clear c3
      by_cases c4 : 0 ≤ x5_1
      rotate_left
      · rw [if_neg c4] at H
        exact absurd H (by simp)
      rw [if_pos c4] at H
      have c4b0 : decide (0 ≤ x5_1) = true := decide_eq_true c4
      clear c4
      obtain ⟨y388, hy388⟩ : ∃ y_ : List (S64), y_ = (x0_1.set (x5_1 : Int).toNat (⟨IntKind.i8.wrap (x1_1), (rd_T64 x0_1 x5_1).f1, (rd_T64 x0_1 x5_1).f2⟩ : S64)) := ⟨_, rfl⟩
      replace H : ((some (y388.set (x5_1 : Int).toNat (⟨(rd_T64 y388 x5_1).f0, IntKind.i8.wrap (wrap64 (x1_1 + 1)), (rd_T64 y388 x5_1).f2⟩ : S64) : List (S64))).bind fun y389 => (laws_markBoxS.l0 k1 (y389.set (x5_1 : Int).toNat (⟨(rd_T64 y389 x5_1).f0, (rd_T64 y389 x5_1).f1, IntKind.i8.wrap (wrap64 ((wrap64 (x1_1 + 1)) + 1))⟩ : S64)) (wrap64 ((wrap64 ((wrap64 (x1_1 + 1)) + 1)) + 1)) (wrap64 (x5_1 + 1)))) = some (r1, r2) := by first | (rw [hy388]; with_reducible exact H) | (have H2_ := (Option.bind_some _ _).symm.trans H; rw [hy388]; with_reducible exact H2_) | (have H2_ := (Option.bind_some _ _).symm.trans H; with_reducible exact H2_) | with_reducible exact H | (rw [hy388]; exact H) | exact H
      have Ny388 := Aside0.mk hy388
      clear hy388
      obtain ⟨y389, hy389⟩ : ∃ y_ : List (S64), y_ = (y388.set (x5_1 : Int).toNat (⟨(rd_T64 y388 x5_1).f0, IntKind.i8.wrap (wrap64 (x1_1 + 1)), (rd_T64 y388 x5_1).f2⟩ : S64)) := ⟨_, rfl⟩
      replace H : (laws_markBoxS.l0 k1 (y389.set (x5_1 : Int).toNat (⟨(rd_T64 y389 x5_1).f0, (rd_T64 y389 x5_1).f1, IntKind.i8.wrap (wrap64 ((wrap64 (x1_1 + 1)) + 1))⟩ : S64)) (wrap64 ((wrap64 ((wrap64 (x1_1 + 1)) + 1)) + 1)) (wrap64 (x5_1 + 1))) = some (r1, r2) := by first | (rw [hy389]; with_reducible exact H) | (have H2_ := (Option.bind_some _ _).symm.trans H; rw [hy389]; with_reducible exact H2_) | (have H2_ := (Option.bind_some _ _).symm.trans H; with_reducible exact H2_) | with_reducible exact H | (rw [hy389]; exact H) | exact H
      have Ny389 := Aside0.mk hy389
      clear hy389
      obtain ⟨y390, hy390⟩ : ∃ y_ : List (S64), y_ = (y389.set (x5_1 : Int).toNat (⟨(rd_T64 y389 x5_1).f0, (rd_T64 y389 x5_1).f1, IntKind.i8.wrap (wrap64 ((wrap64 (x1_1 + 1)) + 1))⟩ : S64)) := ⟨_, rfl⟩
      replace H : (laws_markBoxS.l0 k1 y390 (wrap64 ((wrap64 ((wrap64 (x1_1 + 1)) + 1)) + 1)) (wrap64 (x5_1 + 1))) = some (r1, r2) := by first | (rw [hy390]; with_reducible exact H) | (have H2_ := (Option.bind_some _ _).symm.trans H; rw [hy390]; with_reducible exact H2_) | (have H2_ := (Option.bind_some _ _).symm.trans H; with_reducible exact H2_) | with_reducible exact H | (rw [hy390]; exact H) | exact H
      have Ny390 := Aside0.mk hy390
      clear hy390
      have H' := Aside0.mk H
      clear H
      obtain ⟨Ao8, co8, eo8⟩ := Kd.R_slice HO_0.out
      subst eo8
      have p5 : 0 ≤ (x5_1 : Int) := of_decide_eq_true (by first | (with_reducible assumption) | assumption)
      have q5 : (x5_1 : Int) < ((x0_1.length : Int) : Int) := of_decide_eq_true (by first | (with_reducible assumption) | assumption)
      obtain ⟨go5, co5, eo5, gb5, gl5, cl5, HG5⟩ := Kd.R_form HO_0.out (by omega)
      (first | cases eo5 | (injection eo5 with ea_ en_ ec_; (first | subst ea_ | (injection ea_ with ea_; subst ea_)); subst ec_; clear en_))
      have GB5 := Aside0.mk gb5
      have GG5 := Aside0.mk HG5
      clear gb5 gl5 HG5
      have HMgo5 := Aside0.mk (show (P0_ go5 ∨ w.heap.size ≤ go5) from (HO_0.out.1 _ rfl))
      obtain ⟨ce5, hcl5, hM5, hcc5, hfr5⟩ := Kd.R_elem HO_0.out z64 (x5_1 : Int) p5 q5
      obtain rfl := k64_openM hM5
      have hx5_0 : wr.cell? ⟨go5, (x5_1 : Int).toNat * 3, none⟩ = some (.int .i8 ((rd_T64 x0_1 x5_1).f0)) := hcc5 0 _ rfl
      have hx5_1 : wr.cell? ⟨go5, (x5_1 : Int).toNat * 3 + 1, none⟩ = some (.int .i8 ((rd_T64 x0_1 x5_1).f1)) := hcc5 1 _ rfl
      have hx5_2 : wr.cell? ⟨go5, (x5_1 : Int).toNat * 3 + 2, none⟩ = some (.int .i8 ((rd_T64 x0_1 x5_1).f2)) := hcc5 2 _ rfl
      have hf5_0 : wr.frozen? ⟨go5, (x5_1 : Int).toNat * 3, none⟩ = false := hfr5 0
      have hf5_1 : wr.frozen? ⟨go5, (x5_1 : Int).toNat * 3 + 1, none⟩ = false := hfr5 1
      have hf5_2 : wr.frozen? ⟨go5, (x5_1 : Int).toNat * 3 + 2, none⟩ = false := hfr5 2
      clear hcl5 hcc5 hfr5 hM5
      replace p5 := eq_true p5
      replace q5 := eq_true q5
      have HX9 := Aside0.mk (show Kd.R k64 64 wr w0.heap.size (fun k_ => (P0_ k_ ∨ w.heap.size ≤ k_)) (.slice (some ⟨go5, 0, none⟩) x0_1.length co8) x0_1 from (by (with_reducible repeat (first | apply Kd.R_alloc | apply Kd.R_drewN | apply Kd.R_drew)); exact HO_0.out))
      obtain ⟨ce9, hcl9, hM9, hcc9, hfr9⟩ := Kd.R_elem HX9.out z64 (x5_1 : Int) (of_decide_eq_true (by first | (with_reducible assumption) | assumption)) (by have h_ : (x5_1 : Int) < ((x0_1.length : Int) : Int) := of_decide_eq_true (by first | (with_reducible assumption) | assumption); first | exact h_ | (have e_ := (Kd.R_reads' HO_0.out).1; omega) | simpa using h_)
      obtain rfl := k64_openM hM9
      have HP9 := Kd.R_seg HX9.out (x5_1 : Int) (of_decide_eq_true (by first | (with_reducible assumption) | assumption)) (by have h_ : (x5_1 : Int) < ((x0_1.length : Int) : Int) := of_decide_eq_true (by first | (with_reducible assumption) | assumption); first | exact h_ | (have e_ := (Kd.R_reads' HO_0.out).1; omega) | simpa using h_) (seg := [.int .i8 (IntKind.i8.wrap (x1_1))]) (j := 0) hcl9 hcc9 (show 1 ≤ 3 from by decide) (x' := (⟨IntKind.i8.wrap (x1_1), (rd_T64 x0_1 x5_1).f1, (rd_T64 x0_1 x5_1).f2⟩ : S64)) (k64_mkM _ _ _ (⟨IntKind.i8.wrap (x1_1), (rd_T64 x0_1 x5_1).f1, (rd_T64 x0_1 x5_1).f2⟩ : S64) ) (fun _ hk => hk)
      have hx9_0 := hcc9 0 _ rfl
      (try simp only [show (k64).sz = 3 from rfl, Nat.mul_one, Nat.add_zero] at hx9_0)
      have hf9_0 := hfr9 0
      (try simp only [show (k64).sz = 3 from rfl, Nat.mul_one, Nat.add_zero] at hf9_0)
      clear hcl9 hcc9 hfr9 hM9
      go_wp2_with (first | ((with_reducible refine gate_store (t := 62) (p := 17) rfl ?_); refine store_event (t := 62) (p := 17) (v := ?vo_w10) (w1 := (wr.setCell ⟨go5, (x5_1 : Int).toNat * 3, none⟩ (.int .i8 (IntKind.i8.wrap (x1_1))))) ?hg ?ho ?hn ?hr ?_; (case ho => rfl); (case hg => rfl); (case hn => rfl); (case hr => first | (go_simp; done) | (go_simp; rfl)); intro w10 hw; have hg : wr.grownBy w10 (some go5) := (by rw [hw]; exact HP9.2); have hp_ : Kd.R k64 64 w10 w0.heap.size (fun k_ => (P0_ k_ ∨ w.heap.size ≤ k_)) (.slice (some ⟨go5, 0, none⟩) x0_1.length co8) y388 := (by rw [hw, Ny388.out]; exact HP9.1); clear HP9; have n0_ := Aside0.mk (hp_); have n1_ := Aside0.mk ((by rw [hw]; exact below_set (HB.out) GB5.out : Below w0.heap.size w0 w10)); have n2_ := Aside0.mk (Kept.of_grown (S := (fun k_ => P0_ k_)) hg (by repeat (first | (with_reducible first | exact HK.out | apply Kept.alloc | apply Kept.drewN | apply Kept.drew) | exact HK.out)) (fun k_ e_ => (HO_0.out.1 k_ e_))); clear HO_0; clear HB; clear HK; have HO_0 := n0_; have HB := n1_; have HK := n2_; clear n0_ n1_ n2_; clear hg hw hp_; have p6 : 0 ≤ (x5_1 : Int) := of_decide_eq_true (by first | (with_reducible assumption) | assumption); have q6 : (x5_1 : Int) < ((x0_1.length : Int) : Int) := of_decide_eq_true (by first | (with_reducible assumption) | assumption); obtain ⟨ce6, hcl6, hM6, hcc6, hfr6⟩ := Kd.R_elem HO_0.out z64 (x5_1 : Int) p6 q6; obtain rfl := k64_openM hM6; have hx6_0 : w10.cell? ⟨go5, (x5_1 : Int).toNat * 3, none⟩ = some (.int .i8 ((rd_T64 y388 x5_1).f0)) := hcc6 0 _ rfl; have hx6_1 : w10.cell? ⟨go5, (x5_1 : Int).toNat * 3 + 1, none⟩ = some (.int .i8 ((rd_T64 y388 x5_1).f1)) := hcc6 1 _ rfl; have hx6_2 : w10.cell? ⟨go5, (x5_1 : Int).toNat * 3 + 2, none⟩ = some (.int .i8 ((rd_T64 y388 x5_1).f2)) := hcc6 2 _ rfl; have hf6_0 : w10.frozen? ⟨go5, (x5_1 : Int).toNat * 3, none⟩ = false := hfr6 0; have hf6_1 : w10.frozen? ⟨go5, (x5_1 : Int).toNat * 3 + 1, none⟩ = false := hfr6 1; have hf6_2 : w10.frozen? ⟨go5, (x5_1 : Int).toNat * 3 + 2, none⟩ = false := hfr6 2; clear hcl6 hcc6 hfr6 hM6; replace p6 := eq_true p6; replace q6 := eq_true q6; have HX11 := Aside0.mk (show Kd.R k64 64 w10 w0.heap.size (fun k_ => (P0_ k_ ∨ w.heap.size ≤ k_)) (.slice (some ⟨go5, 0, none⟩) x0_1.length co8) y388 from (by (with_reducible repeat (first | apply Kd.R_alloc | apply Kd.R_drewN | apply Kd.R_drew)); exact HO_0.out)); obtain ⟨ce11, hcl11, hM11, hcc11, hfr11⟩ := Kd.R_elem HX11.out z64 (x5_1 : Int) (of_decide_eq_true (by first | (with_reducible assumption) | assumption)) (by have h_ : (x5_1 : Int) < ((x0_1.length : Int) : Int) := of_decide_eq_true (by first | (with_reducible assumption) | assumption); first | exact h_ | (have e_ := (Kd.R_reads' HO_0.out).1; omega) | simpa using h_); obtain rfl := k64_openM hM11; have HP11 := Kd.R_seg HX11.out (x5_1 : Int) (of_decide_eq_true (by first | (with_reducible assumption) | assumption)) (by have h_ : (x5_1 : Int) < ((x0_1.length : Int) : Int) := of_decide_eq_true (by first | (with_reducible assumption) | assumption); first | exact h_ | (have e_ := (Kd.R_reads' HO_0.out).1; omega) | simpa using h_) (seg := [.int .i8 (IntKind.i8.wrap (wrap64 (x1_1 + 1)))]) (j := 1) hcl11 hcc11 (show 2 ≤ 3 from by decide) (x' := (⟨(rd_T64 y388 x5_1).f0, IntKind.i8.wrap (wrap64 (x1_1 + 1)), (rd_T64 y388 x5_1).f2⟩ : S64)) (k64_mkM _ _ _ (⟨(rd_T64 y388 x5_1).f0, IntKind.i8.wrap (wrap64 (x1_1 + 1)), (rd_T64 y388 x5_1).f2⟩ : S64) ) (fun _ hk => hk); have hx11_1 := hcc11 1 _ rfl; (try simp only [show (k64).sz = 3 from rfl, Nat.mul_one, Nat.add_zero] at hx11_1); have hf11_1 := hfr11 1; (try simp only [show (k64).sz = 3 from rfl, Nat.mul_one, Nat.add_zero] at hf11_1); clear hcl11 hcc11 hfr11 hM11) | ((with_reducible refine gate_store (t := 62) (p := 25) rfl ?_); refine store_event (t := 62) (p := 25) (v := ?vo_w12) (w1 := (w10.setCell ⟨go5, (x5_1 : Int).toNat * 3 + 1, none⟩ (.int .i8 (IntKind.i8.wrap (wrap64 (x1_1 + 1)))))) ?hg ?ho ?hn ?hr ?_; (case ho => rfl); (case hg => rfl); (case hn => rfl); (case hr => first | (go_simp; done) | (go_simp; rfl)); intro w12 hw; have hg : w10.grownBy w12 (some go5) := (by rw [hw]; exact HP11.2); have hp_ : Kd.R k64 64 w12 w0.heap.size (fun k_ => (P0_ k_ ∨ w.heap.size ≤ k_)) (.slice (some ⟨go5, 0, none⟩) x0_1.length co8) y389 := (by rw [hw, Ny389.out]; exact HP11.1); clear HP11; have n0_ := Aside0.mk (hp_); have n1_ := Aside0.mk ((by rw [hw]; exact below_set (HB.out) GB5.out : Below w0.heap.size w0 w12)); have n2_ := Aside0.mk (Kept.of_grown (S := (fun k_ => P0_ k_)) hg (by repeat (first | (with_reducible first | exact HK.out | apply Kept.alloc | apply Kept.drewN | apply Kept.drew) | exact HK.out)) (fun k_ e_ => (HO_0.out.1 k_ e_))); clear HO_0; clear HB; clear HK; have HO_0 := n0_; have HB := n1_; have HK := n2_; clear n0_ n1_ n2_; clear hg hw hp_; have p7 : 0 ≤ (x5_1 : Int) := of_decide_eq_true (by first | (with_reducible assumption) | assumption); have q7 : (x5_1 : Int) < ((x0_1.length : Int) : Int) := of_decide_eq_true (by first | (with_reducible assumption) | assumption); obtain ⟨ce7, hcl7, hM7, hcc7, hfr7⟩ := Kd.R_elem HO_0.out z64 (x5_1 : Int) p7 q7; obtain rfl := k64_openM hM7; have hx7_0 : w12.cell? ⟨go5, (x5_1 : Int).toNat * 3, none⟩ = some (.int .i8 ((rd_T64 y389 x5_1).f0)) := hcc7 0 _ rfl; have hx7_1 : w12.cell? ⟨go5, (x5_1 : Int).toNat * 3 + 1, none⟩ = some (.int .i8 ((rd_T64 y389 x5_1).f1)) := hcc7 1 _ rfl; have hx7_2 : w12.cell? ⟨go5, (x5_1 : Int).toNat * 3 + 2, none⟩ = some (.int .i8 ((rd_T64 y389 x5_1).f2)) := hcc7 2 _ rfl; have hf7_0 : w12.frozen? ⟨go5, (x5_1 : Int).toNat * 3, none⟩ = false := hfr7 0; have hf7_1 : w12.frozen? ⟨go5, (x5_1 : Int).toNat * 3 + 1, none⟩ = false := hfr7 1; have hf7_2 : w12.frozen? ⟨go5, (x5_1 : Int).toNat * 3 + 2, none⟩ = false := hfr7 2; clear hcl7 hcc7 hfr7 hM7; replace p7 := eq_true p7; replace q7 := eq_true q7; have HX13 := Aside0.mk (show Kd.R k64 64 w12 w0.heap.size (fun k_ => (P0_ k_ ∨ w.heap.size ≤ k_)) (.slice (some ⟨go5, 0, none⟩) x0_1.length co8) y389 from (by (with_reducible repeat (first | apply Kd.R_alloc | apply Kd.R_drewN | apply Kd.R_drew)); exact HO_0.out)); obtain ⟨ce13, hcl13, hM13, hcc13, hfr13⟩ := Kd.R_elem HX13.out z64 (x5_1 : Int) (of_decide_eq_true (by first | (with_reducible assumption) | assumption)) (by have h_ : (x5_1 : Int) < ((x0_1.length : Int) : Int) := of_decide_eq_true (by first | (with_reducible assumption) | assumption); first | exact h_ | (have e_ := (Kd.R_reads' HO_0.out).1; omega) | simpa using h_); obtain rfl := k64_openM hM13; have HP13 := Kd.R_seg HX13.out (x5_1 : Int) (of_decide_eq_true (by first | (with_reducible assumption) | assumption)) (by have h_ : (x5_1 : Int) < ((x0_1.length : Int) : Int) := of_decide_eq_true (by first | (with_reducible assumption) | assumption); first | exact h_ | (have e_ := (Kd.R_reads' HO_0.out).1; omega) | simpa using h_) (seg := [.int .i8 (IntKind.i8.wrap (wrap64 ((wrap64 (x1_1 + 1)) + 1)))]) (j := 2) hcl13 hcc13 (show 3 ≤ 3 from by decide) (x' := (⟨(rd_T64 y389 x5_1).f0, (rd_T64 y389 x5_1).f1, IntKind.i8.wrap (wrap64 ((wrap64 (x1_1 + 1)) + 1))⟩ : S64)) (k64_mkM _ _ _ (⟨(rd_T64 y389 x5_1).f0, (rd_T64 y389 x5_1).f1, IntKind.i8.wrap (wrap64 ((wrap64 (x1_1 + 1)) + 1))⟩ : S64) ) (fun _ hk => hk); have hx13_2 := hcc13 2 _ rfl; (try simp only [show (k64).sz = 3 from rfl, Nat.mul_one, Nat.add_zero] at hx13_2); have hf13_2 := hfr13 2; (try simp only [show (k64).sz = 3 from rfl, Nat.mul_one, Nat.add_zero] at hf13_2); clear hcl13 hcc13 hfr13 hM13) | ((with_reducible refine gate_store (t := 62) (p := 33) rfl ?_); refine store_event (t := 62) (p := 33) (v := ?vo_w14) (w1 := (w12.setCell ⟨go5, (x5_1 : Int).toNat * 3 + 2, none⟩ (.int .i8 (IntKind.i8.wrap (wrap64 ((wrap64 (x1_1 + 1)) + 1)))))) ?hg ?ho ?hn ?hr ?_; (case ho => rfl); (case hg => rfl); (case hn => rfl); (case hr => first | (go_simp; done) | (go_simp; rfl)); intro w14 hw; have hg : w12.grownBy w14 (some go5) := (by rw [hw]; exact HP13.2); have hp_ : Kd.R k64 64 w14 w0.heap.size (fun k_ => (P0_ k_ ∨ w.heap.size ≤ k_)) (.slice (some ⟨go5, 0, none⟩) x0_1.length co8) y390 := (by rw [hw, Ny390.out]; exact HP13.1); clear HP13; have n0_ := Aside0.mk (hp_); have n1_ := Aside0.mk ((by rw [hw]; exact below_set (HB.out) GB5.out : Below w0.heap.size w0 w14)); have n2_ := Aside0.mk (Kept.of_grown (S := (fun k_ => P0_ k_)) hg (by repeat (first | (with_reducible first | exact HK.out | apply Kept.alloc | apply Kept.drewN | apply Kept.drew) | exact HK.out)) (fun k_ e_ => (HO_0.out.1 k_ e_))); clear HO_0; clear HB; clear HK; have HO_0 := n0_; have HB := n1_; have HK := n2_; clear n0_ n1_ n2_; clear hg hw hp_))
      go_roundg k1
      case measure => have := HK1.out; omega
      case rel => exact ⟨(y390), (wrap64 ((wrap64 ((wrap64 (x1_1 + 1)) + 1)) + 1)), (wrap64 (x5_1 + 1)), (by first | rfl | (simp; done) | (simp [*]; done)), (by first | rfl | (simp; done) | (simp [*]; done)), H', ⟨by have := HK1.out; omega⟩, ⟨by (with_reducible repeat (first | apply Kd.R_alloc | apply Kd.R_drewN | apply Kd.R_drew)); exact HO_0.out⟩, ⟨by repeat (first | (with_reducible first | exact HK.out | apply Kept.alloc | apply Kept.drewN | apply Kept.drew) | exact HK.out)⟩, ⟨by repeat (first | (with_reducible first | exact HB.out | apply below_alloc | apply pw_below_drewN | apply below_drew1) | exact HB.out)⟩⟩
end Go.Proofs.Ytipdmnibjkdpcaa.P

namespace Go.Proofs.Ytipdmnibjkdpcaa.P
open Go.RowKit Go.Proofs.YtipdmnibjkdpcaaW.PrintWords Go.Proofs.YtipdmnibjkdpcaaW.PrintLast Go.Proofs.YtipdmnibjkdpcaaW.PrintMore
attribute [local go_sem] max2_int min2_int max_two min_two max_three min_three max_four min_four
set_option linter.unusedVariables false
set_option linter.unusedSimpArgs false
mutual
def laws_FnExactLongestNest.j0 : Nat → List (S66) → List Int → Int → List (S64) → List Int → Int → Bool → Option (Bool)
  | 0, _, _, _, _, _, _, _ => none
  | k + 1, x0, x4, x5, x6, x7, x8, x40 => if x40 = true then (some false) else ((laws_toBoxS.f k x0).bind fun t407 => ((laws_eqBoxS.f k x6 t407).bind fun t410 => (if t410 = true then ((laws_markBoxS.f k x6 1).bind fun bt411 => (if bt411.1 < 0 then (laws_FnExactLongestNest.j1 k x0 x4 x5 x7 true) else ((laws_eqInt64S.f k x7 x4).bind fun t413 => (if t413 = true then (laws_FnExactLongestNest.j1 k x0 x4 x5 x7 (x8 != x5)) else (laws_FnExactLongestNest.j1 k x0 x4 x5 x7 true))))) else (some false))))
def laws_FnExactLongestNest.j1 : Nat → List (S66) → List Int → Int → List Int → Bool → Option (Bool)
  | 0, _, _, _, _, _ => none
  | k + 1, x0, x4, x5, x7, x61 => if x61 = true then (some false) else ((laws_markInt64S.f k x7 1).bind fun bt414 => ((laws_heldInt64S.f k bt414.2 1).bind fun t416 => (if t416 < 0 then (some false) else (if t416 = bt414.1 then ((laws_toBoxS.f k x0).bind fun t417 => ((impl_LongestNest.f k t417).bind fun bt420 => ((laws_eqInt64S.f k bt420.1 x4).bind fun t424 => (if t424 = true then (laws_FnExactLongestNest.j2 k bt414.2 bt414.1 (bt420.2 != x5)) else (laws_FnExactLongestNest.j2 k bt414.2 bt414.1 true))))) else (some false)))))
def laws_FnExactLongestNest.j2 : Nat → List Int → Int → Bool → Option (Bool)
  | 0, _, _, _ => none
  | k + 1, x7, x10, x87 => if x87 = true then (some false) else ((laws_heldInt64S.f k x7 1).bind fun t425 => (if t425 < 0 then (some false) else (if t425 = x10 then (some true) else (some false))))
end
def laws_FnExactLongestNest.f (k : Nat) (l0 : List (S66)) : Option (Bool) := (laws_szBoxS.f l0 1048576).bind fun t391 => (if t391 < 0 then (some true) else ((laws_toBoxS.f k l0).bind fun t392 => ((spec_LongestNest.f k t392).bind fun bt395 => ((laws_toBoxS.f k l0).bind fun t399 => ((impl_LongestNest.f k t399).bind fun bt402 => ((laws_eqInt64S.f k bt402.1 bt395.1).bind fun t406 => (if t406 = true then (laws_FnExactLongestNest.j0 k l0 bt395.1 bt395.2 t399 bt402.1 bt402.2 (bt402.2 != bt395.2)) else (laws_FnExactLongestNest.j0 k l0 bt395.1 bt395.2 t399 bt402.1 bt402.2 true))))))))
set_option maxHeartbeats 8000000 in
set_option maxRecDepth 100000 in
theorem laws_FnExactLongestNest.calls (k : Nat) (A0 : Option Addr) (c0 : Nat) (l0 : List (S66)) (r : Bool) (w : World) (hr0 : Kd.C k66 w A0 l0.length l0) (hc0 : l0.length ≤ c0) (h : laws_FnExactLongestNest.f k l0 = some r) (hlaw_ : r = true := by rfl) :
    Calls Try.prog 5 #[.slice A0 l0.length c0] w fun e w' => e = .returned (.bool r) ∧ Below w.heap.size w w' := by
  have HLAW := Aside0.mk hlaw_
  clear hlaw_
  have HR0 := Aside0.mk hr0
  have HC0 := Aside0.mk hc0
  clear hr0 hc0
  have HB := Aside0.mk (Below.refl w.heap.size w)
  have H : ((laws_szBoxS.f l0 1048576).bind fun t391 => (if t391 < 0 then (some true) else ((laws_toBoxS.f k l0).bind fun t392 => ((spec_LongestNest.f k t392).bind fun bt395 => ((laws_toBoxS.f k l0).bind fun t399 => ((impl_LongestNest.f k t399).bind fun bt402 => ((laws_eqInt64S.f k bt402.1 bt395.1).bind fun t406 => (if t406 = true then (laws_FnExactLongestNest.j0 k l0 bt395.1 bt395.2 t399 bt402.1 bt402.2 (bt402.2 != bt395.2)) else (laws_FnExactLongestNest.j0 k l0 bt395.1 bt395.2 t399 bt402.1 bt402.2 true))))))))) = some r := h
  clear h
  replace H := Option.bind_eq_some_iff.mp H
  obtain ⟨t391, A20, H⟩ := H
  replace H : (if t391 < 0 then (some true) else ((laws_toBoxS.f k l0).bind fun t392 => ((spec_LongestNest.f k t392).bind fun bt395 => ((laws_toBoxS.f k l0).bind fun t399 => ((impl_LongestNest.f k t399).bind fun bt402 => ((laws_eqInt64S.f k bt402.1 bt395.1).bind fun t406 => (if t406 = true then (laws_FnExactLongestNest.j0 k l0 bt395.1 bt395.2 t399 bt402.1 bt402.2 (bt402.2 != bt395.2)) else (laws_FnExactLongestNest.j0 k l0 bt395.1 bt395.2 t399 bt402.1 bt402.2 true)))))))) = some r := H
  have A2 := Aside0.mk A20
  clear A20
  by_cases c3 : t391 < 0
  rotate_left
  · rw [if_neg c3] at H
    have c3b0 : decide (t391 < 0) = false := decide_eq_false c3
    clear c3
    replace H := Option.bind_eq_some_iff.mp H
    obtain ⟨t392, A40, H⟩ := H
    replace H : ((spec_LongestNest.f k t392).bind fun bt395 => ((laws_toBoxS.f k l0).bind fun t399 => ((impl_LongestNest.f k t399).bind fun bt402 => ((laws_eqInt64S.f k bt402.1 bt395.1).bind fun t406 => (if t406 = true then (laws_FnExactLongestNest.j0 k l0 bt395.1 bt395.2 t399 bt402.1 bt402.2 (bt402.2 != bt395.2)) else (laws_FnExactLongestNest.j0 k l0 bt395.1 bt395.2 t399 bt402.1 bt402.2 true)))))) = some r := H
    have A4 := Aside0.mk A40
    clear A40
    replace H := Option.bind_eq_some_iff.mp H
    obtain ⟨⟨t395, t398⟩, A50, H⟩ := H
    replace H : ((laws_toBoxS.f k l0).bind fun t399 => ((impl_LongestNest.f k t399).bind fun bt402 => ((laws_eqInt64S.f k bt402.1 t395).bind fun t406 => (if t406 = true then (laws_FnExactLongestNest.j0 k l0 t395 t398 t399 bt402.1 bt402.2 (bt402.2 != t398)) else (laws_FnExactLongestNest.j0 k l0 t395 t398 t399 bt402.1 bt402.2 true))))) = some r := H
    have A5 := Aside0.mk A50
    clear A50
    replace H := Option.bind_eq_some_iff.mp H
    obtain ⟨t399, A60, H⟩ := H
    replace H : ((impl_LongestNest.f k t399).bind fun bt402 => ((laws_eqInt64S.f k bt402.1 t395).bind fun t406 => (if t406 = true then (laws_FnExactLongestNest.j0 k l0 t395 t398 t399 bt402.1 bt402.2 (bt402.2 != t398)) else (laws_FnExactLongestNest.j0 k l0 t395 t398 t399 bt402.1 bt402.2 true)))) = some r := H
    have A6 := Aside0.mk A60
    clear A60
    replace H := Option.bind_eq_some_iff.mp H
    obtain ⟨⟨t402, t403⟩, A70, H⟩ := H
    replace H : ((laws_eqInt64S.f k t402 t395).bind fun t406 => (if t406 = true then (laws_FnExactLongestNest.j0 k l0 t395 t398 t399 t402 t403 (t403 != t398)) else (laws_FnExactLongestNest.j0 k l0 t395 t398 t399 t402 t403 true))) = some r := H
    have A7 := Aside0.mk A70
    clear A70
    have HC8 := Aside0.mk H
    clear H
    go_enter Try.func5, Try.ntmps5
    go_upto_region 8 with (first | ((with_reducible refine gate_callee (f := 17) rfl ?_); refine goesL_ (some 16) rfl rfl Try.func17 (by kernel_rfl) rfl #[.slice A0 l0.length c0, .int .i64 1048576] rfl (by (try simp only [List.map_toArray, List.map_cons, List.map_nil]); first | done | rfl | (simp only [List.length_drop, List.length_take]; rfl)) ?_; (with_reducible refine (laws_szBoxS.calls _ _ l0 1048576 t391 _ ?side1 ?side2 A2.out).mono ?_); (case side1 => repeat (first | exact HR0.out | (with_reducible refine Kd.C_alloc ?_ _) | (with_reducible refine Kd.C_drewN ?_ _) | (with_reducible refine Kd.C_drew ?_))); (case side2 => exact HC0.out); rintro e w' ⟨rfl, ⟨nd, rfl⟩⟩; refine ⟨_, rfl, ?_⟩) | ((with_reducible refine gate_callee (f := 19) rfl ?_); refine goesL_ (some 21) rfl rfl Try.func19 (by kernel_rfl) rfl #[.slice A0 l0.length c0] rfl (by (try simp only [List.map_toArray, List.map_cons, List.map_nil]); first | done | rfl | (simp only [List.length_drop, List.length_take]; rfl)) ?_; (with_reducible refine (laws_toBoxS.calls k _ _ l0 t392 _ ?side1 ?side2 A4.out).mono ?_); (case side1 => repeat (first | exact HR0.out | (with_reducible refine Kd.C_alloc ?_ _) | (with_reducible refine Kd.C_drewN ?_ _) | (with_reducible refine Kd.C_drew ?_))); (case side2 => exact HC0.out); rintro e w9 ⟨v393, rfl, ho0, hb⟩; refine ⟨_, rfl, ?_⟩; have n0_ := Aside0.mk (Kd.R_lower ho0 (below_size (by repeat (first | (with_reducible first | exact HB.out | apply below_alloc | apply pw_below_drewN | apply below_drew1) | exact HB.out)))); have n1_ := Aside0.mk (below_step (by repeat (first | (with_reducible first | exact HB.out | apply below_alloc | apply pw_below_drewN | apply below_drew1) | exact HB.out)) hb); clear HB; have HO394 := n0_; have HB := n1_; clear n0_ n1_; (try clear hb); (try clear hb2); (try clear hk); (try clear hi); (try clear ho0); obtain ⟨Ao10, co10, eo10⟩ := Kd.R_slice HO394.out; subst eo10) | ((with_reducible refine gate_callee (f := 18) rfl ?_); refine goesL_ (some 22) rfl rfl Try.func18 (by kernel_rfl) rfl #[.slice Ao10 t392.length co10] rfl (by (try simp only [List.map_toArray, List.map_cons, List.map_nil]); first | done | rfl | (simp only [List.length_drop, List.length_take]; rfl)) ?_; (with_reducible refine (spec_LongestNest.calls k _ _ t392 t395 t398 _ ?side1 ?side2 A5.out).mono ?_); (case side1 => repeat (first | exact (Kd.R_reads' HO394.out).2.2 | (with_reducible refine Kd.C_alloc ?_ _) | (with_reducible refine Kd.C_drewN ?_ _) | (with_reducible refine Kd.C_drew ?_))); (case side2 => exact (Kd.R_reads' HO394.out).2.1); rintro e w11 ⟨v396, rfl, ho0, hb⟩; refine ⟨_, rfl, ?_⟩; have n0_ := Aside0.mk (Kd.R_below (by (with_reducible repeat (first | apply Kd.R_alloc | apply Kd.R_drewN | apply Kd.R_drew)); exact HO394.out) hb); have n1_ := Aside0.mk (Kd.V_lower (Kd.V_mono (ok' := fun k_ => some k_ ≠ (.slice Ao10 t392.length co10 : Value).ownBlock) ho0 (fun k_ hk_ => (Kd.fresh' (Kd.R_lt (by (with_reducible repeat (first | apply Kd.R_alloc | apply Kd.R_drewN | apply Kd.R_drew)); exact HO394.out)) k_ hk_))) (below_size (by repeat (first | (with_reducible first | exact HB.out | apply below_alloc | apply pw_below_drewN | apply below_drew1) | exact HB.out)))); have n2_ := Aside0.mk (below_step (by repeat (first | (with_reducible first | exact HB.out | apply below_alloc | apply pw_below_drewN | apply below_drew1) | exact HB.out)) hb); clear HO394; clear HB; have HO394 := n0_; have HO397 := n1_; have HB := n2_; clear n0_ n1_ n2_; (try clear hb); (try clear hb2); (try clear hk); (try clear hi); (try clear ho0)) | ((with_reducible refine gate_callee (f := 19) rfl ?_); refine goesL_ (some 26) rfl rfl Try.func19 (by kernel_rfl) rfl #[.slice A0 l0.length c0] rfl (by (try simp only [List.map_toArray, List.map_cons, List.map_nil]); first | done | rfl | (simp only [List.length_drop, List.length_take]; rfl)) ?_; (with_reducible refine (laws_toBoxS.calls k _ _ l0 t399 _ ?side1 ?side2 A6.out).mono ?_); (case side1 => repeat (first | exact (Kd.C_below HR0.out HB.out) | (with_reducible refine Kd.C_alloc ?_ _) | (with_reducible refine Kd.C_drewN ?_ _) | (with_reducible refine Kd.C_drew ?_))); (case side2 => exact HC0.out); rintro e w12 ⟨v400, rfl, ho0, hb⟩; refine ⟨_, rfl, ?_⟩; have n0_ := Aside0.mk (Kd.R_elder' (by (with_reducible repeat (first | apply Kd.R_alloc | apply Kd.R_drewN | apply Kd.R_drew)); exact HO394.out) (Kd.R_base ho0) hb); have n1_ := Aside0.mk (Kd.V_elder' (by (with_reducible repeat (first | apply Kd.V_alloc | apply Kd.V_drewN | apply Kd.V_drew)); exact HO397.out) (Kd.R_base ho0) hb); have n2_ := Aside0.mk (Kd.R_lower (Kd.R_new' ho0 (Kd.R_lt (by (with_reducible repeat (first | apply Kd.R_alloc | apply Kd.R_drewN | apply Kd.R_drew)); exact HO394.out))) (below_size (by repeat (first | (with_reducible first | exact HB.out | apply below_alloc | apply pw_below_drewN | apply below_drew1) | exact HB.out)))); have n3_ := Aside0.mk (below_step (by repeat (first | (with_reducible first | exact HB.out | apply below_alloc | apply pw_below_drewN | apply below_drew1) | exact HB.out)) hb); clear HO394; clear HO397; clear HB; have HO394 := n0_; have HO397 := n1_; have HO401 := n2_; have HB := n3_; clear n0_ n1_ n2_ n3_; (try clear hb); (try clear hb2); (try clear hk); (try clear hi); (try clear ho0); obtain ⟨Ao13, co13, eo13⟩ := Kd.R_slice HO401.out; subst eo13) | ((with_reducible refine gate_callee (f := 20) rfl ?_); refine goesL_ (some 29) rfl rfl Try.func20 (by kernel_rfl) rfl #[.slice Ao13 t399.length co13] rfl (by (try simp only [List.map_toArray, List.map_cons, List.map_nil]); first | done | rfl | (simp only [List.length_drop, List.length_take]; rfl)) ?_; (with_reducible refine (impl_LongestNest.calls k _ _ t399 t402 t403 _ ?side1 ?side2 A7.out).mono ?_); (case side1 => repeat (first | exact (Kd.R_reads' HO401.out).2.2 | (with_reducible refine Kd.C_alloc ?_ _) | (with_reducible refine Kd.C_drewN ?_ _) | (with_reducible refine Kd.C_drew ?_))); (case side2 => exact (Kd.R_reads' HO401.out).2.1); rintro e w14 ⟨v404, rfl, ho0, hb⟩; refine ⟨_, rfl, ?_⟩; have n0_ := Aside0.mk (Kd.R_below (by (with_reducible repeat (first | apply Kd.R_alloc | apply Kd.R_drewN | apply Kd.R_drew)); exact HO394.out) hb); have n1_ := Aside0.mk (Kd.V_elder' (by (with_reducible repeat (first | apply Kd.V_alloc | apply Kd.V_drewN | apply Kd.V_drew)); exact HO397.out) (Kd.R_base ho0) hb); have n2_ := Aside0.mk (Kd.R_below (by (with_reducible repeat (first | apply Kd.R_alloc | apply Kd.R_drewN | apply Kd.R_drew)); exact HO401.out) hb); have n3_ := Aside0.mk (Kd.R_lower ho0 (below_size (by repeat (first | (with_reducible first | exact HB.out | apply below_alloc | apply pw_below_drewN | apply below_drew1) | exact HB.out)))); have n4_ := Aside0.mk (below_step (by repeat (first | (with_reducible first | exact HB.out | apply below_alloc | apply pw_below_drewN | apply below_drew1) | exact HB.out)) hb); clear HO394; clear HO397; clear HO401; clear HB; have HO394 := n0_; have HO397 := n1_; have HO401 := n2_; have HO405 := n3_; have HB := n4_; clear n0_ n1_ n2_ n3_ n4_; (try clear hb); (try clear hb2); (try clear hk); (try clear hi); (try clear ho0)))
    (try simp only [Act.put, List.setIfInBounds_toArray, List.set_cons_zero, List.set_cons_succ])
    go_cut [40] (fun v40 wc => ∃ (kq : Nat) (x40_7 : Bool), v40 = .bool x40_7 ∧ Aside0 (laws_FnExactLongestNest.j0 kq l0 t395 t398 t399 t402 t403 x40_7 = some r) ∧ Aside0 (kq ≤ k) ∧ Aside0 (Kd.V (Kd.int .i64) 2 wc w.heap.size (fun k_ => some k_ ≠ ((.slice Ao13 t399.length co13) : Value).ownBlock ∧ some k_ ≠ (v404 : Value).ownBlock) v396 t395) ∧ Aside0 (Kd.R k64 64 wc w.heap.size (fun _ => True) (.slice Ao13 t399.length co13) t399) ∧ Aside0 (Kd.R (Kd.int .i64) 2 wc w.heap.size (fun _ => True) v404 t402) ∧ Aside0 (Below w.heap.size w wc))
    case first =>
      have H := HC8.out
      clear HC8
      replace H := Option.bind_eq_some_iff.mp H
      obtain ⟨t406, A150, H⟩ := H
      replace H : (if t406 = true then (laws_FnExactLongestNest.j0 k l0 t395 t398 t399 t402 t403 (t403 != t398)) else (laws_FnExactLongestNest.j0 k l0 t395 t398 t399 t402 t403 true)) = some r := H
      have A15 := Aside0.mk A150
      clear A150
      by_cases c16 : t406 = true
      rotate_left
      · replace c16 := Bool.eq_false_iff.mpr c16
        subst c16
        have H1 : (laws_FnExactLongestNest.j0 k l0 t395 t398 t399 t402 t403 true) = some r := by rw [if_neg (show ¬ (false = true) by decide)] at H; exact H
        clear H
        have H := H1
        clear H1
        have H' := Aside0.mk H
        clear H
        obtain ⟨Ao19, co19, eo19⟩ := Kd.R_slice HO405.out
        subst eo19
        obtain ⟨Ao20, co20, eo20⟩ := Kd.V_slice HO397.out
        subst eo20
        go_wp2_with (first | ((with_reducible refine gate_callee (f := 12) rfl ?_); refine goesL_ (some 34) rfl rfl Try.func12 (by kernel_rfl) rfl #[.slice Ao19 t402.length co19, .slice Ao20 t395.length co20] rfl (by (try simp only [List.map_toArray, List.map_cons, List.map_nil]); first | done | rfl | (simp only [List.length_drop, List.length_take]; rfl)) ?_; (with_reducible refine (laws_eqInt64S.calls k _ _ t402 _ _ t395 false _ ?side1 ?side2 ?side3 ?side4 A15.out).mono ?_); (case side1 => repeat (first | exact (Kd.R_reads' HO405.out).2.2 | (with_reducible refine Kd.C_alloc ?_ _) | (with_reducible refine Kd.C_drewN ?_ _) | (with_reducible refine Kd.C_drew ?_))); (case side2 => exact (Kd.R_reads' HO405.out).2.1); (case side3 => repeat (first | exact (Kd.V_reads' HO397.out).2.2 | (with_reducible refine Kd.C_alloc ?_ _) | (with_reducible refine Kd.C_drewN ?_ _) | (with_reducible refine Kd.C_drew ?_))); (case side4 => exact (Kd.V_reads' HO397.out).2.1); rintro e w' ⟨rfl, ⟨nd, rfl⟩⟩; refine ⟨_, rfl, ?_⟩))
        go_meet
        case rel => exact ⟨_, (true), (by first | rfl | (simp; done) | (simp [*]; done)), H', ⟨by first | omega | exact Nat.le_refl _⟩, ⟨by (with_reducible repeat (first | apply Kd.V_alloc | apply Kd.V_drewN | apply Kd.V_drew)); exact Kd.V_mono HO397.out (fun _ hk => ⟨hk.1.2, hk.2⟩)⟩, ⟨by (with_reducible repeat (first | apply Kd.R_alloc | apply Kd.R_drewN | apply Kd.R_drew)); exact Kd.R_mono HO401.out (fun _ hk => trivial)⟩, ⟨by (with_reducible repeat (first | apply Kd.R_alloc | apply Kd.R_drewN | apply Kd.R_drew)); exact HO405.out⟩, ⟨by repeat (first | (with_reducible first | exact HB.out | apply below_alloc | apply pw_below_drewN | apply below_drew1) | exact HB.out)⟩⟩
      subst c16
      have H1 : (laws_FnExactLongestNest.j0 k l0 t395 t398 t399 t402 t403 (t403 != t398)) = some r := by rw [if_pos rfl] at H; exact H
      clear H
      have H := H1
      clear H1
      have H' := Aside0.mk H
      clear H
      obtain ⟨Ao17, co17, eo17⟩ := Kd.R_slice HO405.out
      subst eo17
      obtain ⟨Ao18, co18, eo18⟩ := Kd.V_slice HO397.out
      subst eo18
      go_wp2_with (first | ((with_reducible refine gate_callee (f := 12) rfl ?_); refine goesL_ (some 34) rfl rfl Try.func12 (by kernel_rfl) rfl #[.slice Ao17 t402.length co17, .slice Ao18 t395.length co18] rfl (by (try simp only [List.map_toArray, List.map_cons, List.map_nil]); first | done | rfl | (simp only [List.length_drop, List.length_take]; rfl)) ?_; (with_reducible refine (laws_eqInt64S.calls k _ _ t402 _ _ t395 true _ ?side1 ?side2 ?side3 ?side4 A15.out).mono ?_); (case side1 => repeat (first | exact (Kd.R_reads' HO405.out).2.2 | (with_reducible refine Kd.C_alloc ?_ _) | (with_reducible refine Kd.C_drewN ?_ _) | (with_reducible refine Kd.C_drew ?_))); (case side2 => exact (Kd.R_reads' HO405.out).2.1); (case side3 => repeat (first | exact (Kd.V_reads' HO397.out).2.2 | (with_reducible refine Kd.C_alloc ?_ _) | (with_reducible refine Kd.C_drewN ?_ _) | (with_reducible refine Kd.C_drew ?_))); (case side4 => exact (Kd.V_reads' HO397.out).2.1); rintro e w' ⟨rfl, ⟨nd, rfl⟩⟩; refine ⟨_, rfl, ?_⟩))
      go_meet
      case rel => exact ⟨_, ((t403 != t398)), (by first | rfl | (simp; done) | (simp [*]; done)), H', ⟨by first | omega | exact Nat.le_refl _⟩, ⟨by (with_reducible repeat (first | apply Kd.V_alloc | apply Kd.V_drewN | apply Kd.V_drew)); exact Kd.V_mono HO397.out (fun _ hk => ⟨hk.1.2, hk.2⟩)⟩, ⟨by (with_reducible repeat (first | apply Kd.R_alloc | apply Kd.R_drewN | apply Kd.R_drew)); exact Kd.R_mono HO401.out (fun _ hk => trivial)⟩, ⟨by (with_reducible repeat (first | apply Kd.R_alloc | apply Kd.R_drewN | apply Kd.R_drew)); exact HO405.out⟩, ⟨by repeat (first | (with_reducible first | exact HB.out | apply below_alloc | apply pw_below_drewN | apply below_drew1) | exact HB.out)⟩⟩
    case rest =>
      clear HC8
      try clear c1
      try clear c2
      try clear p2
      try clear c3
      try clear c3b0
      try clear c5
      try clear c12
      try clear c16
      try clear c17
      try clear c18
      try clear c19
      try clear c20
      obtain ⟨kq, x40_7, rfl, HA, HJ7, HO_4, HO_6, HO_7, HB⟩ := hcut
      cases kq with
      | zero => exact absurd HA.out (by simp [laws_FnExactLongestNest.j0])
      | succ kj7 =>
        have H := HA.out
        clear HA
        simp only [laws_FnExactLongestNest.j0] at H
        by_cases c21 : x40_7 = true
        rotate_left
        · replace c21 := Bool.eq_false_iff.mpr c21
          subst c21
          have H1 : ((laws_toBoxS.f kj7 l0).bind fun t407 => ((laws_eqBoxS.f kj7 t399 t407).bind fun t410 => (if t410 = true then ((laws_markBoxS.f kj7 t399 1).bind fun bt411 => (if bt411.1 < 0 then (laws_FnExactLongestNest.j1 kj7 l0 t395 t398 t402 true) else ((laws_eqInt64S.f kj7 t402 t395).bind fun t413 => (if t413 = true then (laws_FnExactLongestNest.j1 kj7 l0 t395 t398 t402 (t403 != t398)) else (laws_FnExactLongestNest.j1 kj7 l0 t395 t398 t402 true))))) else (some false)))) = some r := by rw [if_neg (show ¬ (false = true) by decide)] at H; exact H
          clear H
          have H := H1
          clear H1
          replace H := Option.bind_eq_some_iff.mp H
          obtain ⟨t407, A220, H⟩ := H
          replace H : ((laws_eqBoxS.f kj7 t399 t407).bind fun t410 => (if t410 = true then ((laws_markBoxS.f kj7 t399 1).bind fun bt411 => (if bt411.1 < 0 then (laws_FnExactLongestNest.j1 kj7 l0 t395 t398 t402 true) else ((laws_eqInt64S.f kj7 t402 t395).bind fun t413 => (if t413 = true then (laws_FnExactLongestNest.j1 kj7 l0 t395 t398 t402 (t403 != t398)) else (laws_FnExactLongestNest.j1 kj7 l0 t395 t398 t402 true))))) else (some false))) = some r := H
          have A22 := Aside0.mk A220
          clear A220
          replace H := Option.bind_eq_some_iff.mp H
          obtain ⟨t410, A230, H⟩ := H
          replace H : (if t410 = true then ((laws_markBoxS.f kj7 t399 1).bind fun bt411 => (if bt411.1 < 0 then (laws_FnExactLongestNest.j1 kj7 l0 t395 t398 t402 true) else ((laws_eqInt64S.f kj7 t402 t395).bind fun t413 => (if t413 = true then (laws_FnExactLongestNest.j1 kj7 l0 t395 t398 t402 (t403 != t398)) else (laws_FnExactLongestNest.j1 kj7 l0 t395 t398 t402 true))))) else (some false)) = some r := H
          have A23 := Aside0.mk A230
          clear A230
          by_cases c24 : t410 = true
          rotate_left
          · replace c24 := Bool.eq_false_iff.mpr c24
            subst c24
            have H1 : (some false) = some r := by rw [if_neg (show ¬ (false = true) by decide)] at H; exact H
            clear H
            have H := H1
            clear H1
            exact absurd ((Option.some.inj H).trans HLAW.out) (by decide)
          subst c24
          have H1 : ((laws_markBoxS.f kj7 t399 1).bind fun bt411 => (if bt411.1 < 0 then (laws_FnExactLongestNest.j1 kj7 l0 t395 t398 t402 true) else ((laws_eqInt64S.f kj7 t402 t395).bind fun t413 => (if t413 = true then (laws_FnExactLongestNest.j1 kj7 l0 t395 t398 t402 (t403 != t398)) else (laws_FnExactLongestNest.j1 kj7 l0 t395 t398 t402 true))))) = some r := by rw [if_pos rfl] at H; exact H
          clear H
          have H := H1
          clear H1
          replace H := Option.bind_eq_some_iff.mp H
          obtain ⟨⟨t411, t412⟩, A250, H⟩ := H
          replace H : (if t411 < 0 then (laws_FnExactLongestNest.j1 kj7 l0 t395 t398 t402 true) else ((laws_eqInt64S.f kj7 t402 t395).bind fun t413 => (if t413 = true then (laws_FnExactLongestNest.j1 kj7 l0 t395 t398 t402 (t403 != t398)) else (laws_FnExactLongestNest.j1 kj7 l0 t395 t398 t402 true)))) = some r := H
          have A25 := Aside0.mk A250
          clear A250
          have HC26 := Aside0.mk H
          clear H
          go_upto_region 14 with (first | ((with_reducible refine gate_callee (f := 19) rfl ?_); refine goesL_ (some 43) rfl rfl Try.func19 (by kernel_rfl) rfl #[.slice A0 l0.length c0] rfl (by (try simp only [List.map_toArray, List.map_cons, List.map_nil]); first | done | rfl | (simp only [List.length_drop, List.length_take]; rfl)) ?_; (with_reducible refine (laws_toBoxS.calls kj7 _ _ l0 t407 _ ?side1 ?side2 A22.out).mono ?_); (case side1 => repeat (first | exact (Kd.C_below HR0.out HB.out) | (with_reducible refine Kd.C_alloc ?_ _) | (with_reducible refine Kd.C_drewN ?_ _) | (with_reducible refine Kd.C_drew ?_))); (case side2 => exact HC0.out); rintro e w27 ⟨v408, rfl, ho0, hb⟩; refine ⟨_, rfl, ?_⟩; have n0_ := Aside0.mk (Kd.V_elder' (by (with_reducible repeat (first | apply Kd.V_alloc | apply Kd.V_drewN | apply Kd.V_drew)); exact HO_4.out) (Kd.R_base ho0) hb); have n1_ := Aside0.mk (Kd.R_elder' (by (with_reducible repeat (first | apply Kd.R_alloc | apply Kd.R_drewN | apply Kd.R_drew)); exact HO_6.out) (Kd.R_base ho0) hb); have n2_ := Aside0.mk (Kd.R_below (by (with_reducible repeat (first | apply Kd.R_alloc | apply Kd.R_drewN | apply Kd.R_drew)); exact HO_7.out) hb); have n3_ := Aside0.mk (Kd.R_lower (Kd.R_new' ho0 (Kd.R_lt (by (with_reducible repeat (first | apply Kd.R_alloc | apply Kd.R_drewN | apply Kd.R_drew)); exact HO_6.out))) (below_size (by repeat (first | (with_reducible first | exact HB.out | apply below_alloc | apply pw_below_drewN | apply below_drew1) | exact HB.out)))); have n4_ := Aside0.mk (below_step (by repeat (first | (with_reducible first | exact HB.out | apply below_alloc | apply pw_below_drewN | apply below_drew1) | exact HB.out)) hb); clear HO_4; clear HO_6; clear HO_7; clear HB; have HO_4 := n0_; have HO_6 := n1_; have HO_7 := n2_; have HO409 := n3_; have HB := n4_; clear n0_ n1_ n2_ n3_ n4_; (try clear hb); (try clear hb2); (try clear hk); (try clear hi); (try clear ho0); obtain ⟨Ao28, co28, eo28⟩ := Kd.R_slice HO409.out; subst eo28) | ((with_reducible refine gate_callee (f := 21) rfl ?_); refine goesL_ (some 44) rfl rfl Try.func21 (by kernel_rfl) rfl #[.slice Ao13 t399.length co13, .slice Ao28 t407.length co28] rfl (by (try simp only [List.map_toArray, List.map_cons, List.map_nil]); first | done | rfl | (simp only [List.length_drop, List.length_take]; rfl)) ?_; (with_reducible refine (laws_eqBoxS.calls kj7 _ _ t399 _ _ t407 true _ ?side1 ?side2 ?side3 ?side4 A23.out).mono ?_); (case side1 => repeat (first | exact (Kd.R_reads' HO_6.out).2.2 | (with_reducible refine Kd.C_alloc ?_ _) | (with_reducible refine Kd.C_drewN ?_ _) | (with_reducible refine Kd.C_drew ?_))); (case side2 => exact (Kd.R_reads' HO_6.out).2.1); (case side3 => repeat (first | exact (Kd.R_reads' HO409.out).2.2 | (with_reducible refine Kd.C_alloc ?_ _) | (with_reducible refine Kd.C_drewN ?_ _) | (with_reducible refine Kd.C_drew ?_))); (case side4 => exact (Kd.R_reads' HO409.out).2.1); rintro e w29 ⟨rfl, hb⟩; refine ⟨_, rfl, ?_⟩; have n0_ := Aside0.mk (Kd.V_below (by (with_reducible repeat (first | apply Kd.V_alloc | apply Kd.V_drewN | apply Kd.V_drew)); exact HO_4.out) hb); have n1_ := Aside0.mk (Kd.R_below (by (with_reducible repeat (first | apply Kd.R_alloc | apply Kd.R_drewN | apply Kd.R_drew)); exact HO_6.out) hb); have n2_ := Aside0.mk (Kd.R_below (by (with_reducible repeat (first | apply Kd.R_alloc | apply Kd.R_drewN | apply Kd.R_drew)); exact HO_7.out) hb); have n3_ := Aside0.mk (Kd.R_below (by (with_reducible repeat (first | apply Kd.R_alloc | apply Kd.R_drewN | apply Kd.R_drew)); exact HO409.out) hb); have n4_ := Aside0.mk (below_step (by repeat (first | (with_reducible first | exact HB.out | apply below_alloc | apply pw_below_drewN | apply below_drew1) | exact HB.out)) hb); clear HO_4; clear HO_6; clear HO_7; clear HO409; clear HB; have HO_4 := n0_; have HO_6 := n1_; have HO_7 := n2_; have HO409 := n3_; have HB := n4_; clear n0_ n1_ n2_ n3_ n4_; (try clear hb); (try clear hb2); (try clear hk); (try clear hi)) | ((with_reducible refine gate_callee (f := 22) rfl ?_); refine goesL_ (some 48) rfl rfl Try.func22 (by kernel_rfl) rfl #[.slice Ao13 t399.length co13, .int .i64 1] rfl (by (try simp only [List.map_toArray, List.map_cons, List.map_nil]); first | done | rfl | (simp only [List.length_drop, List.length_take]; rfl)) ?_; (with_reducible refine (laws_markBoxS.calls kj7 (fun k_ => some k_ = (.slice Ao13 t399.length co13 : Value).ownBlock) (.slice Ao13 t399.length co13) t399 1 t411 t412 w _ ?side1 ?side2 A25.out).mono ?_); (case side1 => repeat (first | (with_reducible first | exact HB.out | apply below_alloc | apply pw_below_drewN | apply below_drew1) | exact HB.out)); (case side2 => exact Kd.R_tight rfl HO_6.out); rintro e w30 ⟨rfl, hy0, hb, hkp⟩; refine ⟨_, rfl, ?_⟩; have n0_ := Aside0.mk (Kd.V_mono (ok' := fun k_ => some k_ ≠ (.slice Ao13 t399.length co13 : Value).ownBlock ∧ some k_ ≠ (v404 : Value).ownBlock ∧ some k_ ≠ (.slice Ao28 t407.length co28 : Value).ownBlock) (Kd.V_keptB (HO_4.out) hkp (fun k_ hk_ hs_ => (hk_.1.1) hs_)) (fun k_ hk_ => ⟨hk_.1.1.1, hk_.1.1.2, hk_.1.2⟩)); have n1_ := Aside0.mk (Kd.R_reok rfl hy0 (fun k_ e_ => HO_6.out.1 k_ e_)); have n2_ := Aside0.mk (Kd.R_mono (ok' := fun k_ => True) (Kd.R_keptB ((Kd.R_apart' HO_7.out (Kd.R_typed HO_6.out) (by decide))) hkp (fun k_ hk_ hs_ => (hk_.2) hs_)) (fun k_ hk_ => trivial)); have n3_ := Aside0.mk (Kd.R_mono (ok' := fun k_ => some k_ ≠ (.slice Ao13 t399.length co13 : Value).ownBlock) (Kd.R_keptB (HO409.out) hkp (fun k_ hk_ hs_ => (hk_.2) hs_)) (fun k_ hk_ => hk_.1.2)); have n4_ := Aside0.mk (hb); clear HO_4; clear HO_6; clear HO_7; clear HO409; clear HB; have HO_4 := n0_; have HO_6 := n1_; have HO_7 := n2_; have HO409 := n3_; have HB := n4_; clear n0_ n1_ n2_ n3_ n4_; (try clear hb); (try clear hkp); (try clear hy0)))
          (try simp only [Act.put, List.setIfInBounds_toArray, List.set_cons_zero, List.set_cons_succ])
          go_cut [61] (fun v61 wc => ∃ (kq : Nat) (x61_25 : Bool), v61 = .bool x61_25 ∧ Aside0 (laws_FnExactLongestNest.j1 kq l0 t395 t398 t402 x61_25 = some r) ∧ Aside0 (kq ≤ kj7) ∧ Aside0 (Kd.V (Kd.int .i64) 2 wc w.heap.size (fun k_ => some k_ ≠ (v404 : Value).ownBlock) v396 t395) ∧ Aside0 (Kd.R (Kd.int .i64) 2 wc w.heap.size (fun _ => True) v404 t402) ∧ Aside0 (Below w.heap.size w wc))
          case first =>
            have H := HC26.out
            clear HC26
            by_cases c31 : t411 < 0
            rotate_left
            · rw [if_neg c31] at H
              have c31b0 : decide (t411 < 0) = false := decide_eq_false c31
              clear c31
              (first | rw [c31b0] | (simp only [i64_w, i32_w]; rw [c31b0]) | skip)
              replace H := Option.bind_eq_some_iff.mp H
              obtain ⟨t413, A320, H⟩ := H
              replace H : (if t413 = true then (laws_FnExactLongestNest.j1 kj7 l0 t395 t398 t402 (t403 != t398)) else (laws_FnExactLongestNest.j1 kj7 l0 t395 t398 t402 true)) = some r := H
              have A32 := Aside0.mk A320
              clear A320
              by_cases c33 : t413 = true
              rotate_left
              · replace c33 := Bool.eq_false_iff.mpr c33
                subst c33
                have H1 : (laws_FnExactLongestNest.j1 kj7 l0 t395 t398 t402 true) = some r := by rw [if_neg (show ¬ (false = true) by decide)] at H; exact H
                clear H
                have H := H1
                clear H1
                have H' := Aside0.mk H
                clear H
                obtain ⟨Ao36, co36, eo36⟩ := Kd.R_slice HO_7.out
                subst eo36
                obtain ⟨Ao37, co37, eo37⟩ := Kd.V_slice HO_4.out
                subst eo37
                go_wp2_with (first | (go_at_call 12; (with_reducible refine (laws_eqInt64S.calls kj7 _ _ t402 _ _ t395 false _ ?side1 ?side2 ?side3 ?side4 A32.out).mono ?_); (case side1 => repeat (first | exact (Kd.R_reads' HO_7.out).2.2 | (with_reducible refine Kd.C_alloc ?_ _) | (with_reducible refine Kd.C_drewN ?_ _) | (with_reducible refine Kd.C_drew ?_))); (case side2 => exact (Kd.R_reads' HO_7.out).2.1); (case side3 => repeat (first | exact (Kd.V_reads' HO_4.out).2.2 | (with_reducible refine Kd.C_alloc ?_ _) | (with_reducible refine Kd.C_drewN ?_ _) | (with_reducible refine Kd.C_drew ?_))); (case side4 => exact (Kd.V_reads' HO_4.out).2.1); rintro e w' ⟨rfl, ⟨nd, rfl⟩⟩))
                go_meet
                case rel => exact ⟨_, (true), (by first | rfl | (simp; done) | (simp [*]; done)), H', ⟨by have := HJ7.out; first | omega | exact Nat.le_refl _⟩, ⟨by (with_reducible repeat (first | apply Kd.V_alloc | apply Kd.V_drewN | apply Kd.V_drew)); exact Kd.V_mono HO_4.out (fun _ hk => hk.2.1)⟩, ⟨by (with_reducible repeat (first | apply Kd.R_alloc | apply Kd.R_drewN | apply Kd.R_drew)); exact HO_7.out⟩, ⟨by repeat (first | (with_reducible first | exact HB.out | apply below_alloc | apply pw_below_drewN | apply below_drew1) | exact HB.out)⟩⟩
              subst c33
              have H1 : (laws_FnExactLongestNest.j1 kj7 l0 t395 t398 t402 (t403 != t398)) = some r := by rw [if_pos rfl] at H; exact H
              clear H
              have H := H1
              clear H1
              have H' := Aside0.mk H
              clear H
              obtain ⟨Ao34, co34, eo34⟩ := Kd.R_slice HO_7.out
              subst eo34
              obtain ⟨Ao35, co35, eo35⟩ := Kd.V_slice HO_4.out
              subst eo35
              go_wp2_with (first | (go_at_call 12; (with_reducible refine (laws_eqInt64S.calls kj7 _ _ t402 _ _ t395 true _ ?side1 ?side2 ?side3 ?side4 A32.out).mono ?_); (case side1 => repeat (first | exact (Kd.R_reads' HO_7.out).2.2 | (with_reducible refine Kd.C_alloc ?_ _) | (with_reducible refine Kd.C_drewN ?_ _) | (with_reducible refine Kd.C_drew ?_))); (case side2 => exact (Kd.R_reads' HO_7.out).2.1); (case side3 => repeat (first | exact (Kd.V_reads' HO_4.out).2.2 | (with_reducible refine Kd.C_alloc ?_ _) | (with_reducible refine Kd.C_drewN ?_ _) | (with_reducible refine Kd.C_drew ?_))); (case side4 => exact (Kd.V_reads' HO_4.out).2.1); rintro e w' ⟨rfl, ⟨nd, rfl⟩⟩))
              go_meet
              case rel => exact ⟨_, ((t403 != t398)), (by first | rfl | (simp; done) | (simp [*]; done)), H', ⟨by have := HJ7.out; first | omega | exact Nat.le_refl _⟩, ⟨by (with_reducible repeat (first | apply Kd.V_alloc | apply Kd.V_drewN | apply Kd.V_drew)); exact Kd.V_mono HO_4.out (fun _ hk => hk.2.1)⟩, ⟨by (with_reducible repeat (first | apply Kd.R_alloc | apply Kd.R_drewN | apply Kd.R_drew)); exact HO_7.out⟩, ⟨by repeat (first | (with_reducible first | exact HB.out | apply below_alloc | apply pw_below_drewN | apply below_drew1) | exact HB.out)⟩⟩
            rw [if_pos c31] at H
            have c31b0 : decide (t411 < 0) = true := decide_eq_true c31
            clear c31
            (first | rw [c31b0] | (simp only [i64_w, i32_w]; rw [c31b0]) | skip)
            have H' := Aside0.mk H
            clear H
            go_wp2
            go_meet
            case rel => exact ⟨_, (true), (by first | rfl | (simp; done) | (simp [*]; done)), H', ⟨by have := HJ7.out; first | omega | exact Nat.le_refl _⟩, ⟨by (with_reducible repeat (first | apply Kd.V_alloc | apply Kd.V_drewN | apply Kd.V_drew)); exact Kd.V_mono HO_4.out (fun _ hk => hk.2.1)⟩, ⟨by (with_reducible repeat (first | apply Kd.R_alloc | apply Kd.R_drewN | apply Kd.R_drew)); exact HO_7.out⟩, ⟨by repeat (first | (with_reducible first | exact HB.out | apply below_alloc | apply pw_below_drewN | apply below_drew1) | exact HB.out)⟩⟩
          case rest =>
            clear HC26
            try clear c1
            try clear c2
            try clear p2
            try clear c3
            try clear c3b0
            try clear c5
            try clear c12
            try clear c16
            try clear c17
            try clear c18
            try clear c19
            try clear c20
            try clear c21
            try clear c22
            try clear c24
            try clear c31
            try clear c31b0
            try clear c33
            try clear p2
            obtain ⟨kq, x61_25, rfl, HA, HJ25, HO_4, HO_7, HB⟩ := hcut
            cases kq with
            | zero => exact absurd HA.out (by simp [laws_FnExactLongestNest.j1])
            | succ kj25 =>
              have H := HA.out
              clear HA
              simp only [laws_FnExactLongestNest.j1] at H
              by_cases c38 : x61_25 = true
              rotate_left
              · replace c38 := Bool.eq_false_iff.mpr c38
                subst c38
                have H1 : ((laws_markInt64S.f kj25 t402 1).bind fun bt414 => ((laws_heldInt64S.f kj25 bt414.2 1).bind fun t416 => (if t416 < 0 then (some false) else (if t416 = bt414.1 then ((laws_toBoxS.f kj25 l0).bind fun t417 => ((impl_LongestNest.f kj25 t417).bind fun bt420 => ((laws_eqInt64S.f kj25 bt420.1 t395).bind fun t424 => (if t424 = true then (laws_FnExactLongestNest.j2 kj25 bt414.2 bt414.1 (bt420.2 != t398)) else (laws_FnExactLongestNest.j2 kj25 bt414.2 bt414.1 true))))) else (some false))))) = some r := by rw [if_neg (show ¬ (false = true) by decide)] at H; exact H
                clear H
                have H := H1
                clear H1
                replace H := Option.bind_eq_some_iff.mp H
                obtain ⟨⟨t414, t415⟩, A390, H⟩ := H
                replace H : ((laws_heldInt64S.f kj25 t415 1).bind fun t416 => (if t416 < 0 then (some false) else (if t416 = t414 then ((laws_toBoxS.f kj25 l0).bind fun t417 => ((impl_LongestNest.f kj25 t417).bind fun bt420 => ((laws_eqInt64S.f kj25 bt420.1 t395).bind fun t424 => (if t424 = true then (laws_FnExactLongestNest.j2 kj25 t415 t414 (bt420.2 != t398)) else (laws_FnExactLongestNest.j2 kj25 t415 t414 true))))) else (some false)))) = some r := H
                have A39 := Aside0.mk A390
                clear A390
                replace H := Option.bind_eq_some_iff.mp H
                obtain ⟨t416, A400, H⟩ := H
                replace H : (if t416 < 0 then (some false) else (if t416 = t414 then ((laws_toBoxS.f kj25 l0).bind fun t417 => ((impl_LongestNest.f kj25 t417).bind fun bt420 => ((laws_eqInt64S.f kj25 bt420.1 t395).bind fun t424 => (if t424 = true then (laws_FnExactLongestNest.j2 kj25 t415 t414 (bt420.2 != t398)) else (laws_FnExactLongestNest.j2 kj25 t415 t414 true))))) else (some false))) = some r := H
                have A40 := Aside0.mk A400
                clear A400
                by_cases c41 : t416 < 0
                rotate_left
                · rw [if_neg c41] at H
                  have c41b0 : decide (t416 < 0) = false := decide_eq_false c41
                  clear c41
                  by_cases c42 : t416 = t414
                  rotate_left
                  · rw [if_neg c42] at H
                    have c42b0 : (t416 == t414) = false := beq_eq_false_iff_ne.mpr c42
                    have c42b1 : (t416 != t414) = true := bne_iff_ne.mpr c42
                    exact absurd ((Option.some.inj H).trans HLAW.out) (by decide)
                  rw [if_pos c42] at H
                  have c42b0 : (t416 == t414) = true := beq_iff_eq.mpr c42
                  have c42b1 : (t416 != t414) = false := bne_eq_false_iff_eq.mpr c42
                  clear c42
                  replace H := Option.bind_eq_some_iff.mp H
                  obtain ⟨t417, A430, H⟩ := H
                  replace H : ((impl_LongestNest.f kj25 t417).bind fun bt420 => ((laws_eqInt64S.f kj25 bt420.1 t395).bind fun t424 => (if t424 = true then (laws_FnExactLongestNest.j2 kj25 t415 t414 (bt420.2 != t398)) else (laws_FnExactLongestNest.j2 kj25 t415 t414 true)))) = some r := H
                  have A43 := Aside0.mk A430
                  clear A430
                  replace H := Option.bind_eq_some_iff.mp H
                  obtain ⟨⟨t420, t421⟩, A440, H⟩ := H
                  replace H : ((laws_eqInt64S.f kj25 t420 t395).bind fun t424 => (if t424 = true then (laws_FnExactLongestNest.j2 kj25 t415 t414 (t421 != t398)) else (laws_FnExactLongestNest.j2 kj25 t415 t414 true))) = some r := H
                  have A44 := Aside0.mk A440
                  clear A440
                  have HC45 := Aside0.mk H
                  clear H
                  obtain ⟨Ao46, co46, eo46⟩ := Kd.R_slice HO_7.out
                  subst eo46
                  go_upto_region 25 with (first | ((with_reducible refine gate_callee (f := 13) rfl ?_); refine goesL_ (some 64) rfl rfl Try.func13 (by kernel_rfl) rfl #[.slice Ao46 t402.length co46, .int .i64 1] rfl (by (try simp only [List.map_toArray, List.map_cons, List.map_nil]); first | done | rfl | (simp only [List.length_drop, List.length_take]; rfl)) ?_; (with_reducible refine (laws_markInt64S.calls kj25 (fun k_ => some k_ = (.slice Ao46 t402.length co46 : Value).ownBlock) (.slice Ao46 t402.length co46) t402 1 t414 t415 w _ ?side1 ?side2 A39.out).mono ?_); (case side1 => repeat (first | (with_reducible first | exact HB.out | apply below_alloc | apply pw_below_drewN | apply below_drew1) | exact HB.out)); (case side2 => exact Kd.R_tight rfl HO_7.out); rintro e w47 ⟨rfl, hy0, hb, hkp⟩; refine ⟨_, rfl, ?_⟩; have n0_ := Aside0.mk (Kd.V_mono (ok' := fun k_ => some k_ ≠ (.slice Ao46 t402.length co46 : Value).ownBlock) (Kd.V_keptB (HO_4.out) hkp (fun k_ hk_ hs_ => (hk_) hs_)) (fun k_ hk_ => hk_.1)); have n1_ := Aside0.mk (Kd.R_reok rfl hy0 (fun k_ e_ => HO_7.out.1 k_ e_)); have n2_ := Aside0.mk (hb); clear HO_4; clear HO_7; clear HB; have HO_4 := n0_; have HO_7 := n1_; have HB := n2_; clear n0_ n1_ n2_; (try clear hb); (try clear hkp); (try clear hy0)) | ((with_reducible refine gate_callee (f := 14) rfl ?_); refine goesL_ (some 67) rfl rfl Try.func14 (by kernel_rfl) rfl #[.slice Ao46 t415.length co46, .int .i64 1] rfl (by (try simp only [List.map_toArray, List.map_cons, List.map_nil]); first | done | (rw [show t415.length = t402.length from (Kd.R_reads' HO_7.out).1.symm] <;> rfl) | rfl | (simp only [List.length_drop, List.length_take]; rfl)) ?_; (with_reducible refine (laws_heldInt64S.calls kj25 _ _ t415 1 t416 _ ?side1 ?side2 A40.out).mono ?_); (case side1 => repeat (first | exact (Kd.R_reads' HO_7.out).2.2 | (with_reducible refine Kd.C_alloc ?_ _) | (with_reducible refine Kd.C_drewN ?_ _) | (with_reducible refine Kd.C_drew ?_))); (case side2 => rw [show t415.length = t402.length from (Kd.R_reads' HO_7.out).1.symm]; exact (Kd.R_reads' HO_7.out).2.1); rintro e w' ⟨rfl, ⟨nd, rfl⟩⟩; refine ⟨_, rfl, ?_⟩) | ((with_reducible refine gate_callee (f := 19) rfl ?_); refine goesL_ (some 75) rfl rfl Try.func19 (by kernel_rfl) rfl #[.slice A0 l0.length c0] rfl (by (try simp only [List.map_toArray, List.map_cons, List.map_nil]); first | done | rfl | (simp only [List.length_drop, List.length_take]; rfl)) ?_; (with_reducible refine (laws_toBoxS.calls kj25 _ _ l0 t417 _ ?side1 ?side2 A43.out).mono ?_); (case side1 => repeat (first | exact (Kd.C_below HR0.out (by repeat (first | (with_reducible first | exact HB.out | apply below_alloc | apply pw_below_drewN | apply below_drew1) | exact HB.out))) | (with_reducible refine Kd.C_alloc ?_ _) | (with_reducible refine Kd.C_drewN ?_ _) | (with_reducible refine Kd.C_drew ?_))); (case side2 => exact HC0.out); rintro e w48 ⟨v418, rfl, ho0, hb⟩; refine ⟨_, rfl, ?_⟩; have n0_ := Aside0.mk (Kd.V_elder' (by (with_reducible repeat (first | apply Kd.V_alloc | apply Kd.V_drewN | apply Kd.V_drew)); exact HO_4.out) (Kd.R_base ho0) hb); have n1_ := Aside0.mk (Kd.R_below (by (with_reducible repeat (first | apply Kd.R_alloc | apply Kd.R_drewN | apply Kd.R_drew)); exact HO_7.out) hb); have n2_ := Aside0.mk (Kd.R_lower ho0 (below_size (by repeat (first | (with_reducible first | exact HB.out | apply below_alloc | apply pw_below_drewN | apply below_drew1) | exact HB.out)))); have n3_ := Aside0.mk (below_step (by repeat (first | (with_reducible first | exact HB.out | apply below_alloc | apply pw_below_drewN | apply below_drew1) | exact HB.out)) hb); clear HO_4; clear HO_7; clear HB; have HO_4 := n0_; have HO_7 := n1_; have HO419 := n2_; have HB := n3_; clear n0_ n1_ n2_ n3_; (try clear hb); (try clear hb2); (try clear hk); (try clear hi); (try clear ho0); obtain ⟨Ao49, co49, eo49⟩ := Kd.R_slice HO419.out; subst eo49) | ((with_reducible refine gate_callee (f := 20) rfl ?_); refine goesL_ (some 76) rfl rfl Try.func20 (by kernel_rfl) rfl #[.slice Ao49 t417.length co49] rfl (by (try simp only [List.map_toArray, List.map_cons, List.map_nil]); first | done | rfl | (simp only [List.length_drop, List.length_take]; rfl)) ?_; (with_reducible refine (impl_LongestNest.calls kj25 _ _ t417 t420 t421 _ ?side1 ?side2 A44.out).mono ?_); (case side1 => repeat (first | exact (Kd.R_reads' HO419.out).2.2 | (with_reducible refine Kd.C_alloc ?_ _) | (with_reducible refine Kd.C_drewN ?_ _) | (with_reducible refine Kd.C_drew ?_))); (case side2 => exact (Kd.R_reads' HO419.out).2.1); rintro e w50 ⟨v422, rfl, ho0, hb⟩; refine ⟨_, rfl, ?_⟩; have n0_ := Aside0.mk (Kd.V_elder' (by (with_reducible repeat (first | apply Kd.V_alloc | apply Kd.V_drewN | apply Kd.V_drew)); exact HO_4.out) (Kd.R_base ho0) hb); have n1_ := Aside0.mk (Kd.R_elder' (by (with_reducible repeat (first | apply Kd.R_alloc | apply Kd.R_drewN | apply Kd.R_drew)); exact HO_7.out) (Kd.R_base ho0) hb); have n2_ := Aside0.mk (Kd.R_below (by (with_reducible repeat (first | apply Kd.R_alloc | apply Kd.R_drewN | apply Kd.R_drew)); exact HO419.out) hb); have n3_ := Aside0.mk (Kd.R_lower (Kd.R_new' ho0 (Kd.R_lt (by (with_reducible repeat (first | apply Kd.R_alloc | apply Kd.R_drewN | apply Kd.R_drew)); exact HO_7.out))) (below_size (by repeat (first | (with_reducible first | exact HB.out | apply below_alloc | apply pw_below_drewN | apply below_drew1) | exact HB.out)))); have n4_ := Aside0.mk (below_step (by repeat (first | (with_reducible first | exact HB.out | apply below_alloc | apply pw_below_drewN | apply below_drew1) | exact HB.out)) hb); clear HO_4; clear HO_7; clear HO419; clear HB; have HO_4 := n0_; have HO_7 := n1_; have HO419 := n2_; have HO423 := n3_; have HB := n4_; clear n0_ n1_ n2_ n3_ n4_; (try clear hb); (try clear hb2); (try clear hk); (try clear hi); (try clear ho0)))
                  (try simp only [Act.put, List.setIfInBounds_toArray, List.set_cons_zero, List.set_cons_succ])
                  go_cut [87] (fun v87 wc => ∃ (kq : Nat) (x87_44 : Bool), v87 = .bool x87_44 ∧ Aside0 (laws_FnExactLongestNest.j2 kq t415 t414 x87_44 = some r) ∧ Aside0 (kq ≤ kj25) ∧ Aside0 (Kd.R (Kd.int .i64) 2 wc w.heap.size (fun _ => True) (.slice Ao46 t402.length co46) t415) ∧ Aside0 (Below w.heap.size w wc))
                  case first =>
                    have H := HC45.out
                    clear HC45
                    replace H := Option.bind_eq_some_iff.mp H
                    obtain ⟨t424, A510, H⟩ := H
                    replace H : (if t424 = true then (laws_FnExactLongestNest.j2 kj25 t415 t414 (t421 != t398)) else (laws_FnExactLongestNest.j2 kj25 t415 t414 true)) = some r := H
                    have A51 := Aside0.mk A510
                    clear A510
                    by_cases c52 : t424 = true
                    rotate_left
                    · replace c52 := Bool.eq_false_iff.mpr c52
                      subst c52
                      have H1 : (laws_FnExactLongestNest.j2 kj25 t415 t414 true) = some r := by rw [if_neg (show ¬ (false = true) by decide)] at H; exact H
                      clear H
                      have H := H1
                      clear H1
                      have H' := Aside0.mk H
                      clear H
                      obtain ⟨Ao55, co55, eo55⟩ := Kd.R_slice HO423.out
                      subst eo55
                      obtain ⟨Ao56, co56, eo56⟩ := Kd.V_slice HO_4.out
                      subst eo56
                      go_wp2_with (first | ((with_reducible refine gate_callee (f := 12) rfl ?_); refine goesL_ (some 81) rfl rfl Try.func12 (by kernel_rfl) rfl #[.slice Ao55 t420.length co55, .slice Ao56 t395.length co56] rfl (by (try simp only [List.map_toArray, List.map_cons, List.map_nil]); first | done | rfl | (simp only [List.length_drop, List.length_take]; rfl)) ?_; (with_reducible refine (laws_eqInt64S.calls kj25 _ _ t420 _ _ t395 false _ ?side1 ?side2 ?side3 ?side4 A51.out).mono ?_); (case side1 => repeat (first | exact (Kd.R_reads' HO423.out).2.2 | (with_reducible refine Kd.C_alloc ?_ _) | (with_reducible refine Kd.C_drewN ?_ _) | (with_reducible refine Kd.C_drew ?_))); (case side2 => exact (Kd.R_reads' HO423.out).2.1); (case side3 => repeat (first | exact (Kd.V_reads' HO_4.out).2.2 | (with_reducible refine Kd.C_alloc ?_ _) | (with_reducible refine Kd.C_drewN ?_ _) | (with_reducible refine Kd.C_drew ?_))); (case side4 => exact (Kd.V_reads' HO_4.out).2.1); rintro e w' ⟨rfl, ⟨nd, rfl⟩⟩; refine ⟨_, rfl, ?_⟩))
                      go_meet
                      case rel => exact ⟨_, (true), (by first | rfl | (simp; done) | (simp [*]; done)), H', ⟨by have := HJ7.out; have := HJ25.out; first | omega | exact Nat.le_refl _⟩, ⟨by (with_reducible repeat (first | apply Kd.R_alloc | apply Kd.R_drewN | apply Kd.R_drew)); exact Kd.R_mono HO_7.out (fun _ hk => trivial)⟩, ⟨by repeat (first | (with_reducible first | exact HB.out | apply below_alloc | apply pw_below_drewN | apply below_drew1) | exact HB.out)⟩⟩
                    subst c52
                    have H1 : (laws_FnExactLongestNest.j2 kj25 t415 t414 (t421 != t398)) = some r := by rw [if_pos rfl] at H; exact H
                    clear H
                    have H := H1
                    clear H1
                    have H' := Aside0.mk H
                    clear H
                    obtain ⟨Ao53, co53, eo53⟩ := Kd.R_slice HO423.out
                    subst eo53
                    obtain ⟨Ao54, co54, eo54⟩ := Kd.V_slice HO_4.out
                    subst eo54
                    go_wp2_with (first | ((with_reducible refine gate_callee (f := 12) rfl ?_); refine goesL_ (some 81) rfl rfl Try.func12 (by kernel_rfl) rfl #[.slice Ao53 t420.length co53, .slice Ao54 t395.length co54] rfl (by (try simp only [List.map_toArray, List.map_cons, List.map_nil]); first | done | rfl | (simp only [List.length_drop, List.length_take]; rfl)) ?_; (with_reducible refine (laws_eqInt64S.calls kj25 _ _ t420 _ _ t395 true _ ?side1 ?side2 ?side3 ?side4 A51.out).mono ?_); (case side1 => repeat (first | exact (Kd.R_reads' HO423.out).2.2 | (with_reducible refine Kd.C_alloc ?_ _) | (with_reducible refine Kd.C_drewN ?_ _) | (with_reducible refine Kd.C_drew ?_))); (case side2 => exact (Kd.R_reads' HO423.out).2.1); (case side3 => repeat (first | exact (Kd.V_reads' HO_4.out).2.2 | (with_reducible refine Kd.C_alloc ?_ _) | (with_reducible refine Kd.C_drewN ?_ _) | (with_reducible refine Kd.C_drew ?_))); (case side4 => exact (Kd.V_reads' HO_4.out).2.1); rintro e w' ⟨rfl, ⟨nd, rfl⟩⟩; refine ⟨_, rfl, ?_⟩))
                    go_meet
                    case rel => exact ⟨_, ((t421 != t398)), (by first | rfl | (simp; done) | (simp [*]; done)), H', ⟨by have := HJ7.out; have := HJ25.out; first | omega | exact Nat.le_refl _⟩, ⟨by (with_reducible repeat (first | apply Kd.R_alloc | apply Kd.R_drewN | apply Kd.R_drew)); exact Kd.R_mono HO_7.out (fun _ hk => trivial)⟩, ⟨by repeat (first | (with_reducible first | exact HB.out | apply below_alloc | apply pw_below_drewN | apply below_drew1) | exact HB.out)⟩⟩
                  case rest =>
                    clear HC45
                    try clear c1
                    try clear c2
                    try clear p2
                    try clear c3
                    try clear c3b0
                    try clear c4
                    try clear c5
                    try clear c12
                    try clear c13
                    try clear c14
                    try clear c16
                    try clear c17
                    try clear c18
                    try clear c19
                    try clear c20
                    try clear c21
                    try clear c22
                    try clear c24
                    try clear c31
                    try clear c31b0
                    try clear c33
                    try clear c38
                    try clear c41
                    try clear c41b0
                    try clear c42
                    try clear c42b0
                    try clear c42b1
                    try clear c52
                    try clear p2
                    obtain ⟨kq, x87_44, rfl, HA, HJ44, HO_7, HB⟩ := hcut
                    have hl7_44 := (Kd.R_reads' HO_7.out).1
                    rw [hl7_44] at HO_7
                    (try simp only [hl7_44])
                    cases kq with
                    | zero => exact absurd HA.out (by simp [laws_FnExactLongestNest.j2])
                    | succ kj44 =>
                      have H := HA.out
                      clear HA
                      simp only [laws_FnExactLongestNest.j2] at H
                      by_cases c57 : x87_44 = true
                      rotate_left
                      · replace c57 := Bool.eq_false_iff.mpr c57
                        subst c57
                        have H1 : ((laws_heldInt64S.f kj44 t415 1).bind fun t425 => (if t425 < 0 then (some false) else (if t425 = t414 then (some true) else (some false)))) = some r := by rw [if_neg (show ¬ (false = true) by decide)] at H; exact H
                        clear H
                        have H := H1
                        clear H1
                        replace H := Option.bind_eq_some_iff.mp H
                        obtain ⟨t425, A580, H⟩ := H
                        replace H : (if t425 < 0 then (some false) else (if t425 = t414 then (some true) else (some false))) = some r := H
                        have A58 := Aside0.mk A580
                        clear A580
                        by_cases c59 : t425 < 0
                        rotate_left
                        · rw [if_neg c59] at H
                          have c59b0 : decide (t425 < 0) = false := decide_eq_false c59
                          clear c59
                          by_cases c60 : t425 = t414
                          rotate_left
                          · rw [if_neg c60] at H
                            have c60b0 : (t425 == t414) = false := beq_eq_false_iff_ne.mpr c60
                            have c60b1 : (t425 != t414) = true := bne_iff_ne.mpr c60
                            exact absurd ((Option.some.inj H).trans HLAW.out) (by decide)
                          rw [if_pos c60] at H
                          have c60b0 : (t425 == t414) = true := beq_iff_eq.mpr c60
                          have c60b1 : (t425 != t414) = false := bne_eq_false_iff_eq.mpr c60
                          clear c60
                          obtain rfl := Option.some.inj H
                          go_wp2_with (first | ((with_reducible refine gate_callee (f := 14) rfl ?_); refine goesL_ (some 90) rfl rfl Try.func14 (by kernel_rfl) rfl #[.slice Ao46 t415.length co46, .int .i64 1] rfl (by (try simp only [List.map_toArray, List.map_cons, List.map_nil]); first | done | rfl | (simp only [List.length_drop, List.length_take]; rfl)) ?_; (with_reducible refine (laws_heldInt64S.calls kj44 _ _ t415 1 t425 _ ?side1 ?side2 A58.out).mono ?_); (case side1 => repeat (first | exact (Kd.R_reads' HO_7.out).2.2 | (with_reducible refine Kd.C_alloc ?_ _) | (with_reducible refine Kd.C_drewN ?_ _) | (with_reducible refine Kd.C_drew ?_))); (case side2 => exact (Kd.R_reads' HO_7.out).2.1); rintro e w' ⟨rfl, ⟨nd, rfl⟩⟩; refine ⟨_, rfl, ?_⟩))
                          go_ret
                          exact ⟨by first | rfl | (simp [errW_none, errW_some] <;> rfl) | (simp [*, errW_none, errW_some] <;> rfl), by repeat (first | (with_reducible first | exact HB.out | apply below_alloc | apply pw_below_drewN | apply below_drew1) | exact HB.out)⟩
                        rw [if_pos c59] at H
                        have c59b0 : decide (t425 < 0) = true := decide_eq_true c59
                        clear c59
                        exact absurd ((Option.some.inj H).trans HLAW.out) (by decide)
                      subst c57
                      have H1 : (some false) = some r := by rw [if_pos rfl] at H; exact H
                      clear H
                      have H := H1
                      clear H1
                      exact absurd ((Option.some.inj H).trans HLAW.out) (by decide)
                rw [if_pos c41] at H
                have c41b0 : decide (t416 < 0) = true := decide_eq_true c41
                clear c41
                exact absurd ((Option.some.inj H).trans HLAW.out) (by decide)
              subst c38
              have H1 : (some false) = some r := by rw [if_pos rfl] at H; exact H
              clear H
              have H := H1
              clear H1
              exact absurd ((Option.some.inj H).trans HLAW.out) (by decide)
        subst c21
        have H1 : (some false) = some r := by rw [if_pos rfl] at H; exact H
        clear H
        have H := H1
        clear H1
        exact absurd ((Option.some.inj H).trans HLAW.out) (by decide)
  rw [if_pos c3] at H
  have c3b0 : decide (t391 < 0) = true := decide_eq_true c3
  clear c3
  obtain rfl := Option.some.inj H
  go_enter Try.func5, Try.ntmps5
  go_wp2_with (first | ((with_reducible refine gate_callee (f := 17) rfl ?_); refine goesL_ (some 16) rfl rfl Try.func17 (by kernel_rfl) rfl #[.slice A0 l0.length c0, .int .i64 1048576] rfl (by (try simp only [List.map_toArray, List.map_cons, List.map_nil]); first | done | rfl | (simp only [List.length_drop, List.length_take]; rfl)) ?_; (with_reducible refine (laws_szBoxS.calls _ _ l0 1048576 t391 _ ?side1 ?side2 A2.out).mono ?_); (case side1 => repeat (first | exact HR0.out | (with_reducible refine Kd.C_alloc ?_ _) | (with_reducible refine Kd.C_drewN ?_ _) | (with_reducible refine Kd.C_drew ?_))); (case side2 => exact HC0.out); rintro e w' ⟨rfl, ⟨nd, rfl⟩⟩; refine ⟨_, rfl, ?_⟩))
  go_ret
  exact ⟨by first | rfl | (simp [errW_none, errW_some] <;> rfl) | (simp [*, errW_none, errW_some] <;> rfl), by repeat (first | (with_reducible first | exact HB.out | apply below_alloc | apply pw_below_drewN | apply below_drew1) | exact HB.out)⟩
end Go.Proofs.Ytipdmnibjkdpcaa.P

namespace Go.Proofs.Ytipdmnibjkdpcaa.P
open Go.RowKit Go.Proofs.YtipdmnibjkdpcaaW.PrintWords
def laws_FnExactLongestNest.Pure : Prop := ∀ (x0 : List (S66)), (x0.length ≤ 9223372036854775807 ∧ ∀ x0_ ∈ x0, ((Lit.int .i8 x0_.f0).wf = true ∧ (Lit.int .i8 x0_.f1).wf = true ∧ (Lit.int .i8 x0_.f2).wf = true)) → ∃ k, laws_FnExactLongestNest.f k x0 = some true
end Go.Proofs.Ytipdmnibjkdpcaa.P

namespace Go.Proofs.Ytipdmnibjkdpcaa.Pure
open Go.RowKit Go.Proofs.Ytipdmnibjkdpcaa.P Go.Proofs.YtipdmnibjkdpcaaW.PrintWords Go.Proofs.YtipdmnibjkdpcaaW.PrintLast
set_option linter.unusedVariables false
set_option linter.unusedSimpArgs false
theorem EvG {α : Type} {g : Nat → Option α} {r : α} (h : Ev g r) : ∃ K, ∀ k, K ≤ k → g k = some r := h
theorem EvI {α : Type} {g : Nat → Option α} {r : α} (K : Nat) (h : ∀ k, K ≤ k → g k = some r) : Ev g r := ⟨K, h⟩
theorem w64 {x : Int} (h0 : -9223372036854775808 ≤ x) (h1 : x ≤ 9223372036854775807) : wrap64 x = x := by
  unfold wrap64; omega
theorem wN (i : Nat) (h : i < 4611686018427387904) : wrap64 ((i : Int) + 1) = ((i + 1 : Nat) : Int) := by
  unfold wrap64; omega
theorem rdN (l : List Int) (i : Nat) : rd l (i : Int) = l.getD i 0 := rfl
theorem getD_eq (l : List Int) (i : Nat) (h : i < l.length) : l.getD i 0 = l[i] := by
  rw [List.getD_eq_getElem?_getD, List.getElem?_eq_getElem h]; rfl
theorem list_ext (a b : List Int) (hl : a.length = b.length) (h : ∀ j, j < b.length → a.getD j 0 = b.getD j 0) : a = b := by
  apply List.ext_getElem hl
  intro i h1 h2
  have := h i h2
  rwa [getD_eq a i h1, getD_eq b i h2] at this
theorem getD_set (l : List Int) (i j : Nat) (v : Int) (h : i < l.length) : (l.set i v).getD j 0 = if i = j then v else l.getD j 0 := by
  simp only [List.getD_eq_getElem?_getD, List.getElem?_set]
  by_cases e : i = j
  · subst e; simp [h]
  · simp [e]
end Go.Proofs.Ytipdmnibjkdpcaa.Pure

namespace Go.Proofs.Ytipdmnibjkdpcaa.Pure
open Go.RowKit Go.Proofs.Ytipdmnibjkdpcaa.P Go.Proofs.YtipdmnibjkdpcaaW.PrintWords Go.Proofs.YtipdmnibjkdpcaaW.PrintLast
set_option linter.unusedVariables false
set_option linter.unusedSimpArgs false
theorem eqI_l0 (l : List Int) (hb : l.length ≤ 17592186044415) : ∀ d i, l.length - i = d → i ≤ l.length → Ev (fun k => laws_eqInt64S.l0 k l l (i : Int)) true := by
  intro d
  induction d with
  | zero =>
    intro i hd hi
    refine Ev.step (f := fun _ => some true) (fun k => ?_) (Ev.now true)
    rw [laws_eqInt64S.l0, if_neg (by omega)]
  | succ d ih =>
    intro i hd hi
    refine Ev.step (fun k => ?_) (ih (i + 1) (by omega) (by omega))
    rw [laws_eqInt64S.l0, if_pos (by omega), if_pos (by omega), if_pos (by omega), if_pos rfl, wN i (by omega)]
theorem eqI (l : List Int) (hb : l.length ≤ 17592186044415) : Ev (fun k => laws_eqInt64S.f k l l) true := by
  refine Ev.congr (f := fun k => laws_eqInt64S.l0 k l l ((0 : Nat) : Int)) (fun k => ?_) (eqI_l0 l hb _ 0 rfl (Nat.zero_le _))
  simp only [laws_eqInt64S.f, if_true]; rfl
def iota (m : Nat) : Nat → List Int
  | 0 => []
  | n + 1 => (m : Int) :: iota (m + 1) n
theorem iota_len (m n : Nat) : (iota m n).length = n := by
  induction n generalizing m with
  | zero => rfl
  | succ n ih => simp [iota, ih]
theorem iota_at (m n j : Nat) (h : j < n) : (iota m n).getD j 0 = ((m + j : Nat) : Int) := by
  induction n generalizing m j with
  | zero => omega
  | succ n ih =>
    cases j with
    | zero => rfl
    | succ j =>
      have := ih (m + 1) j (by omega)
      simp only [iota, List.getD_cons_succ, this]
      omega
theorem markI_l0 (n m : Nat) (hb : n ≤ 17592186044415) (hm : m ≤ 17592186044415) : ∀ d i x, n - i = d → i ≤ n → x.length = n → (∀ j, j < i → x.getD j 0 = ((m + j : Nat) : Int)) →
    Ev (fun k => laws_markInt64S.l0 k x ((m + i : Nat) : Int) (i : Int)) (((m + n : Nat) : Int), iota m n) := by
  intro d
  induction d with
  | zero =>
    intro i x hd hi hx hj
    obtain rfl : i = n := by omega
    refine Ev.step (f := fun _ => some (((m + i : Nat) : Int), x)) (fun k => ?_) ?_
    · rw [laws_markInt64S.l0, if_neg (by omega)]
    · have : x = iota m i := list_ext x _ (by rw [iota_len]; exact hx) (fun j h => by rw [iota_len] at h; rw [hj j h, iota_at m i j h])
      rw [this]; exact Ev.now _
  | succ d ih =>
    intro i x hd hi hx hj
    refine Ev.step (fun k => ?_) (ih (i + 1) (x.set i ((m + i : Nat) : Int)) (by omega) (by omega) (by simpa using hx) ?_)
    · rw [laws_markInt64S.l0, if_pos (by omega), if_pos (by omega), wN i (by omega), wN (m + i) (by omega), Int.toNat_natCast]; rfl
    · intro j h
      rw [getD_set x i j _ (by omega)]
      by_cases e : i = j
      · rw [if_pos e, e]
      · rw [if_neg e]; exact hj j (by omega)
theorem markI (l : List Int) (m : Nat) (hb : l.length ≤ 17592186044415) (hm : m ≤ 17592186044415) : Ev (fun k => laws_markInt64S.f k l (m : Int)) (((m + l.length : Nat) : Int), iota m l.length) :=
  markI_l0 l.length m hb hm _ 0 l rfl (Nat.zero_le _) rfl (fun j h => absurd h (Nat.not_lt_zero _))
theorem heldI_l0 (n m : Nat) (hb : n ≤ 17592186044415) (hm : m ≤ 17592186044415) : ∀ d i, n - i = d → i ≤ n → Ev (fun k => laws_heldInt64S.l0 k (iota m n) ((m + i : Nat) : Int) (i : Int)) ((m + n : Nat) : Int) := by
  intro d
  induction d with
  | zero =>
    intro i hd hi
    obtain rfl : i = n := by omega
    refine Ev.step (f := fun _ => some (((m + i : Nat) : Int))) (fun k => ?_) (Ev.now _)
    rw [laws_heldInt64S.l0, iota_len, if_neg (by omega)]
  | succ d ih =>
    intro i hd hi
    refine Ev.step (fun k => ?_) (ih (i + 1) (by omega) (by omega))
    rw [laws_heldInt64S.l0, iota_len, if_pos (by omega), if_pos (by omega), rdN, iota_at m n i (by omega), if_pos rfl, wN i (by omega), wN (m + i) (by omega)]; rfl
theorem heldI (n m : Nat) (hb : n ≤ 17592186044415) (hm : m ≤ 17592186044415) : Ev (fun k => laws_heldInt64S.f k (iota m n) (m : Int)) ((m + n : Nat) : Int) :=
  heldI_l0 n m hb hm _ 0 rfl (Nat.zero_le _)
end Go.Proofs.Ytipdmnibjkdpcaa.Pure

namespace Go.Proofs.Ytipdmnibjkdpcaa.Pure
open Go.RowKit Go.Proofs.Ytipdmnibjkdpcaa.P Go.Proofs.YtipdmnibjkdpcaaW.PrintWords Go.Proofs.YtipdmnibjkdpcaaW.PrintLast
set_option linter.unusedVariables false
set_option linter.unusedSimpArgs false
theorem inF (a lo hi : Int) : spec_l00In.f a lo hi = some (decide (lo ≤ a) && decide (a ≤ hi)) := by
  unfold spec_l00In.f; by_cases h : lo ≤ a <;> simp [h]
theorem w8 {a : Int} (w : (Lit.int .i8 a).wf = true) : wrap64 a = a := by
  obtain ⟨h0, h1⟩ := bounds_i8 w
  exact w64 (by omega) (by omega)
def okB (a b c : Int) : Bool := (decide (1 ≤ a) && decide (a ≤ 60)) && ((decide (1 ≤ b) && decide (b ≤ 60)) && (decide (1 ≤ c) && decide (c ≤ 60)))
theorem specOk {a b c : Int} (wa : (Lit.int .i8 a).wf = true) (wb : (Lit.int .i8 b).wf = true) (wc : (Lit.int .i8 c).wf = true) : spec_l02Ok.f a b c = some (okB a b c) := by
  unfold spec_l02Ok.f okB
  rw [inF, inF, inF, w8 wa, w8 wb, w8 wc, Option.bind_some]
  cases (decide (1 ≤ a) && decide (a ≤ 60)) <;> cases (decide (1 ≤ b) && decide (b ≤ 60)) <;> rfl
theorem sidesF {a b c : Int} (wa : (Lit.int .i8 a).wf = true) (wb : (Lit.int .i8 b).wf = true) (wc : (Lit.int .i8 c).wf = true) : impl_Box_sides.f a b c = some [a, b, c] := by
  unfold impl_Box_sides.f; rw [w8 wa, w8 wb, w8 wc]
theorem implOk {a b c : Int} (wa : (Lit.int .i8 a).wf = true) (wb : (Lit.int .i8 b).wf = true) (wc : (Lit.int .i8 c).wf = true) : impl_ValidBox.f a b c = some (okB a b c) := by
  unfold impl_ValidBox.f impl_areWithin.f
  rw [sidesF wa wb wc]
  simp only [Option.bind_some, List.all_cons, List.all_nil, Bool.and_true, okB]
theorem toB (a b c : Int) : laws_toBox.f a b c = some (a, b, c) := rfl
end Go.Proofs.Ytipdmnibjkdpcaa.Pure

namespace Go.Proofs.Ytipdmnibjkdpcaa.Pure
open Go.RowKit Go.Proofs.Ytipdmnibjkdpcaa.P Go.Proofs.YtipdmnibjkdpcaaW.PrintWords Go.Proofs.YtipdmnibjkdpcaaW.PrintLast
set_option linter.unusedVariables false
set_option linter.unusedSimpArgs false
def ltx (p q : S64) : Prop := p.f0 < q.f0 ∨ (p.f0 = q.f0 ∧ (p.f1 < q.f1 ∨ (p.f1 = q.f1 ∧ p.f2 < q.f2)))
theorem ltx_asymm {p q : S64} : ltx p q → ¬ ltx q p := by unfold ltx; omega
theorem lex_trans {p q r : S64} : ¬ ltx q p → ¬ ltx r q → ¬ ltx r p := by unfold ltx; omega
theorem ltx_irrefl (p : S64) : ¬ ltx p p := by unfold ltx; omega
theorem ltx_le {p q r : S64} : ¬ ltx q p → ltx q r → ltx p r := by unfold ltx; omega
theorem S_ext {p q : S64} (h0 : p.f0 = q.f0) (h1 : p.f1 = q.f1) (h2 : p.f2 = q.f2) : p = q := by
  cases p; cases q; simp only at h0 h1 h2; subst h0 h1 h2; rfl
theorem ltx_eq {p q : S64} (h : ¬ ltx p q) (h' : ¬ ltx q p) : p = q := by
  unfold ltx at h h'
  exact S_ext (by omega) (by omega) (by omega)
def same (p q : S64) : Bool := (p.f0 == q.f0 && (p.f1 == q.f1 && p.f2 == q.f2))
theorem same_iff {p q : S64} : same p q = true ↔ p = q := by
  unfold same
  constructor
  · intro h
    simp only [Bool.and_eq_true, beq_iff_eq] at h
    exact S_ext h.1 h.2.1 h.2.2
  · rintro rfl; simp
theorem same_not (p q : S64) : (!(p.f0 == q.f0) || (!(p.f1 == q.f1) || (!(p.f2 == q.f2)))) = !same p q := by
  unfold same
  cases (p.f0 == q.f0) <;> cases (p.f1 == q.f1) <;> cases (p.f2 == q.f2) <;> rfl
theorem rise_uniq : ∀ (l m : List S64), l.Pairwise ltx → m.Pairwise ltx → (∀ s, s ∈ l ↔ s ∈ m) → l = m := by
  intro l
  induction l with
  | nil =>
    intro m _ _ h
    cases m with
    | nil => rfl
    | cons b m => exact absurd ((h b).2 (List.mem_cons_self ..)) (List.not_mem_nil)
  | cons a l ih =>
    intro m hl hm h
    cases m with
    | nil => exact absurd ((h a).1 (List.mem_cons_self ..)) (List.not_mem_nil)
    | cons b m =>
      rw [List.pairwise_cons] at hl hm
      have hab : a = b := by
        rcases List.mem_cons.1 ((h a).1 (List.mem_cons_self ..)) with e | e
        · exact e
        · rcases List.mem_cons.1 ((h b).2 (List.mem_cons_self ..)) with e' | e'
          · exact e'.symm
          · exact absurd (hm.1 a e) (ltx_asymm (hl.1 b e'))
      subst hab
      rw [ih m hl.2 hm.2 (fun s => ?_)]
      constructor
      · intro hs
        rcases List.mem_cons.1 ((h s).1 (List.mem_cons_of_mem _ hs)) with e | e
        · subst e; exact absurd (hl.1 s hs) (ltx_irrefl s)
        · exact e
      · intro hs
        rcases List.mem_cons.1 ((h s).2 (List.mem_cons_of_mem _ hs)) with e | e
        · subst e; exact absurd (hm.1 s hs) (ltx_irrefl s)
        · exact e
def c3 (a b : Int) : Int := if a < b then -1 else if a > b then 1 else 0
theorem cmpI (a b : Int) : cmp_Compare_int8.f a b = some (c3 a b) := by
  unfold cmp_Compare_int8.f cmp_isNaN_int8.f c3
  simp only [Option.bind_some, bne_self_eq_false, Bool.false_eq_true, if_false]
  split
  · rfl
  · split <;> rfl
theorem orF (x y z : Int) (k : Nat) : cmp_Or_int.f (k + 4) [x, y, z] = some (if x = 0 then (if y = 0 then z else y) else x) := by
  have l1 : (([x, y, z] : List Int).length : Int) = 3 := rfl
  have r0 : rd [x, y, z] 0 = x := rfl
  have r1 : rd [x, y, z] 1 = y := rfl
  have r2 : rd [x, y, z] 2 = z := rfl
  rw [cmp_Or_int.f, l1, show k + 4 = k + 3 + 1 from rfl, cmp_Or_int.l0, if_pos (by omega), if_pos (by omega), if_pos (by omega), r0, w64 (x := 0 + 1) (by omega) (by omega)]
  by_cases hx : x = 0
  · rw [if_pos hx, if_pos hx, show (0 : Int) + 1 = 1 from rfl, show k + 3 = k + 2 + 1 from rfl, cmp_Or_int.l0, if_pos (by omega), if_pos (by omega), if_pos (by omega), r1, w64 (x := 1 + 1) (by omega) (by omega)]
    by_cases hy : y = 0
    · rw [if_pos hy, if_pos hy, show (1 : Int) + 1 = 2 from rfl, show k + 2 = k + 1 + 1 from rfl, cmp_Or_int.l0, if_pos (by omega), if_pos (by omega), if_pos (by omega), r2, w64 (x := 2 + 1) (by omega) (by omega)]
      by_cases hz : z = 0
      · rw [if_pos hz, show (2 : Int) + 1 = 3 from rfl, cmp_Or_int.l0, if_neg (by omega), hz]
      · rw [if_neg hz]
    · rw [if_neg hy, if_neg hy]
  · rw [if_neg hx, if_neg hx]
theorem cmpEv (p q : S64) : ∃ c, (∀ k, impl_Box_turns_1.f (k + 4) p.f0 p.f1 p.f2 q.f0 q.f1 q.f2 = some c) ∧ (c < 0 ↔ ltx p q) := by
  refine ⟨_, fun k => by rw [impl_Box_turns_1.f, cmpI, cmpI, cmpI, Option.bind_some, Option.bind_some, Option.bind_some, orF, Option.bind_some], ?_⟩
  unfold c3 ltx
  by_cases h0 : p.f0 < q.f0 <;> by_cases h1 : p.f0 > q.f0 <;> by_cases h2 : p.f1 < q.f1 <;> by_cases h3 : p.f1 > q.f1 <;> by_cases h4 : p.f2 < q.f2 <;> by_cases h5 : p.f2 > q.f2 <;> simp only [h0, h1, h2, h3, h4, h5, if_true, if_false] <;> simp <;> omega
end Go.Proofs.Ytipdmnibjkdpcaa.Pure

namespace Go.Proofs.Ytipdmnibjkdpcaa.Pure
open Go.RowKit Go.Proofs.Ytipdmnibjkdpcaa.P Go.Proofs.YtipdmnibjkdpcaaW.PrintWords Go.Proofs.YtipdmnibjkdpcaaW.PrintLast
set_option linter.unusedVariables false
set_option linter.unusedSimpArgs false
theorem rdT (l : List S64) (i : Nat) : rd_T64 l (i : Int) = l.getD i z64 := rfl
theorem getD_eqG {α : Type} (z : α) (l : List α) (i : Nat) (h : i < l.length) : l.getD i z = l[i] := by
  rw [List.getD_eq_getElem?_getD, List.getElem?_eq_getElem h]; rfl
theorem getD_setG {α : Type} (z : α) (l : List α) (i j : Nat) (v : α) (h : i < l.length) : (l.set i v).getD j z = if i = j then v else l.getD j z := by
  simp only [List.getD_eq_getElem?_getD, List.getElem?_set]
  by_cases e : i = j
  · subst e; simp [h]
  · simp [e]
theorem mem_getDG {α : Type} (z : α) (l : List α) (s : α) : s ∈ l ↔ ∃ i, i < l.length ∧ l.getD i z = s := by
  rw [List.mem_iff_getElem]
  constructor
  · rintro ⟨i, hi, e⟩; exact ⟨i, hi, by rw [getD_eqG z l i hi, e]⟩
  · rintro ⟨i, hi, e⟩; exact ⟨i, hi, by rw [← getD_eqG z l i hi, e]⟩
def Srt (x : List S64) (i : Nat) : Prop := ∀ p q, p < q → q ≤ i → ¬ ltx (x.getD q z64) (x.getD p z64)
def Alike (x y : List S64) : Prop := ∀ s, s ∈ x ↔ s ∈ y
def Ins (x : List S64) (i j : Nat) : Prop := ∀ p q, p < q → q ≤ i → q ≠ j → ¬ ltx (x.getD q z64) (x.getD p z64)
def swp (x : List S64) (j : Nat) : List S64 := (x.set j (x.getD (j - 1) z64)).set (j - 1) (x.getD j z64)
theorem swp_len (x : List S64) (j : Nat) : (swp x j).length = x.length := by simp [swp]
theorem swp_at (x : List S64) (j q : Nat) (h0 : 0 < j) (hj : j < x.length) : (swp x j).getD q z64 = if q = j - 1 then x.getD j z64 else if q = j then x.getD (j - 1) z64 else x.getD q z64 := by
  unfold swp
  rw [getD_setG z64 _ _ _ _ (by rw [List.length_set]; omega), getD_setG z64 _ _ _ _ hj]
  by_cases e1 : q = j - 1
  · rw [if_pos e1, if_pos e1.symm]
  · rw [if_neg e1, if_neg (fun e => e1 e.symm)]
    by_cases e2 : q = j
    · rw [if_pos e2, if_pos e2.symm]
    · rw [if_neg e2, if_neg (fun e => e2 e.symm)]
theorem swp_mem (x : List S64) (j : Nat) (h0 : 0 < j) (hj : j < x.length) : Alike (swp x j) x := by
  intro s
  rw [mem_getDG z64, mem_getDG z64, swp_len]
  constructor
  · rintro ⟨i, hi, e⟩
    rw [swp_at x j i h0 hj] at e
    by_cases e1 : i = j - 1
    · rw [if_pos e1] at e; exact ⟨j, hj, e⟩
    · rw [if_neg e1] at e
      by_cases e2 : i = j
      · rw [if_pos e2] at e; exact ⟨j - 1, by omega, e⟩
      · rw [if_neg e2] at e; exact ⟨i, hi, e⟩
  · rintro ⟨i, hi, e⟩
    by_cases e1 : i = j - 1
    · exact ⟨j, hj, by rw [swp_at x j j h0 hj, if_neg (by omega), if_pos rfl, ← e1]; exact e⟩
    · by_cases e2 : i = j
      · exact ⟨j - 1, by omega, by rw [swp_at x j _ h0 hj, if_pos rfl, ← e2]; exact e⟩
      · exact ⟨i, hi, by rw [swp_at x j i h0 hj, if_neg e1, if_neg e2]; exact e⟩
theorem swp_ins (x : List S64) (i j : Nat) (h0 : 0 < j) (hji : j ≤ i) (hi : i < x.length) (h : Ins x i j) (hl : ltx (x.getD j z64) (x.getD (j - 1) z64)) : Ins (swp x j) i (j - 1) := by
  intro p q hpq hqi hqj
  rw [swp_at x j q h0 (by omega), swp_at x j p h0 (by omega), if_neg hqj]
  by_cases e2 : q = j
  · rw [if_pos e2]
    by_cases e3 : p = j - 1
    · rw [if_pos e3]; exact ltx_asymm hl
    · rw [if_neg e3, if_neg (by omega)]
      exact h p (j - 1) (by omega) (by omega) (by omega)
  · rw [if_neg e2]
    by_cases e3 : p = j - 1
    · rw [if_pos e3]; exact h j q (by omega) hqi e2
    · rw [if_neg e3]
      by_cases e4 : p = j
      · rw [if_pos e4]; exact h (j - 1) q (by omega) hqi e2
      · rw [if_neg e4]; exact h p q hpq hqi e2
theorem ins_srt (x : List S64) (i j : Nat) (h : Ins x i j) (he : j = 0 ∨ ¬ ltx (x.getD j z64) (x.getD (j - 1) z64)) : Srt x i := by
  intro p q hpq hqi
  by_cases e : q = j
  · subst e
    rcases he with he | he
    · omega
    · by_cases e2 : p = q - 1
      · subst e2; exact he
      · exact lex_trans (h p (q - 1) (by omega) (by omega) (by omega)) he
  · exact h p q hpq hqi e
theorem ins_l1 (n i : Nat) (hi : i < n) (hn : n ≤ 1000) : ∀ j x, x.length = n → j ≤ i → Ins x i j →
    ∃ x', x'.length = n ∧ Alike x' x ∧ Srt x' i ∧ ∀ r, Ev (fun k => impl_Box_86.l0 k x' 0 (n : Int) ((i + 1 : Nat) : Int)) r → Ev (fun k => impl_Box_86.l1 k x 0 (n : Int) (i : Int) (j : Int)) r := by
  intro j
  induction j with
  | zero =>
    intro x hx hj h
    refine ⟨x, hx, fun s => Iff.rfl, ins_srt x i 0 h (.inl rfl), fun r he => Ev.step (fun k => ?_) he⟩
    rw [impl_Box_86.l1, if_neg (by omega), wN i (by omega)]
  | succ j ih =>
    intro x hx hj h
    obtain ⟨c, hc, hcl⟩ := cmpEv (x.getD (j + 1) z64) (x.getD j z64)
    have ew : wrap64 (((j + 1 : Nat) : Int) - 1) = (j : Int) := by rw [w64 (by omega) (by omega)]; omega
    have e1 : ∀ k, impl_Box_86.l1 (k + 4 + 1) x 0 (n : Int) (i : Int) ((j + 1 : Nat) : Int) = if c < 0 then impl_Box_86.l1 (k + 4) (swp x (j + 1)) 0 (n : Int) (i : Int) (j : Int) else impl_Box_86.l0 (k + 4) x 0 (n : Int) ((i + 1 : Nat) : Int) := fun k => by
      rw [impl_Box_86.l1, if_pos (by omega), if_pos (by omega), if_pos (by omega), ew, if_pos (by omega), if_pos (by omega), rdT, rdT, hc k, Option.bind_some, wN i (by omega)]
      rfl
    by_cases hlt : ltx (x.getD (j + 1) z64) (x.getD j z64)
    · obtain ⟨x', a1, a2, a3, a4⟩ := ih (swp x (j + 1)) (by rw [swp_len, hx]) (by omega) (swp_ins x i (j + 1) (by omega) hj (by omega) h hlt)
      refine ⟨x', a1, fun s => (a2 s).trans (swp_mem x (j + 1) (by omega) (by omega) s), a3, fun r he => ?_⟩
      obtain ⟨K, hK⟩ := EvG (a4 r he)
      refine EvI (K + 5) fun k hk => ?_
      obtain ⟨m, rfl⟩ : ∃ m, k = m + 4 + 1 := ⟨k - 5, by omega⟩
      rw [e1, if_pos (hcl.2 hlt)]
      exact hK _ (by omega)
    · refine ⟨x, hx, fun s => Iff.rfl, ins_srt x i (j + 1) h (.inr hlt), fun r he => ?_⟩
      obtain ⟨K, hK⟩ := EvG he
      refine EvI (K + 5) fun k hk => ?_
      obtain ⟨m, rfl⟩ : ∃ m, k = m + 4 + 1 := ⟨k - 5, by omega⟩
      rw [e1, if_neg (fun q => hlt (hcl.1 q))]
      exact hK _ (by omega)
theorem ins_l0 (n : Nat) (hn : n ≤ 1000) : ∀ d i x, n - i = d → 1 ≤ i → i ≤ n → x.length = n → Srt x (i - 1) → ∃ y, y.length = n ∧ Alike y x ∧ Srt y (n - 1) ∧ Ev (fun k => impl_Box_86.l0 k x 0 (n : Int) (i : Int)) y := by
  intro d
  induction d with
  | zero =>
    intro i x hd h1 hi hx hs
    obtain rfl : i = n := by omega
    refine ⟨x, hx, fun s => Iff.rfl, hs, Ev.step (f := fun _ => some x) (fun k => ?_) (Ev.now _)⟩
    rw [impl_Box_86.l0, if_neg (by omega)]
  | succ d ih =>
    intro i x hd h1 hi hx hs
    obtain ⟨x', a1, a2, a3, a4⟩ := ins_l1 n i (by omega) hn i x hx (Nat.le_refl _) (fun p q hpq hqi hq => hs p q hpq (by omega))
    obtain ⟨y, b1, b2, b3, b4⟩ := ih (i + 1) x' (by omega) (by omega) (by omega) a1 (by rw [Nat.add_sub_cancel]; exact a3)
    refine ⟨y, b1, fun s => (b2 s).trans (a2 s), b3, Ev.step (fun k => ?_) (a4 y b4)⟩
    rw [impl_Box_86.l0, if_pos (by omega)]
theorem sort_small (x : List S64) (h1 : 1 ≤ x.length) (h12 : x.length ≤ 12) (r : Int) (hr : Ev (fun k => bits_Len.f k (IntKind.u64.wrap (x.length : Int))) r) : ∃ y, y.length = x.length ∧ Alike y x ∧ Srt y (x.length - 1) ∧ Ev (fun k => impl_Box_77.f k x) y := by
  obtain ⟨y, a1, a2, a3, a4⟩ := ins_l0 x.length (by omega) _ 1 x rfl (Nat.le_refl _) h1 rfl (fun p q hpq hq => by omega)
  obtain ⟨K1, hr⟩ := EvG hr
  obtain ⟨K2, a4⟩ := EvG a4
  refine ⟨y, a1, a2, a3, EvI (K1 + K2 + 3) fun k hk => ?_⟩
  obtain ⟨m, rfl⟩ : ∃ m, k = m + 2 := ⟨k - 2, by omega⟩
  rw [impl_Box_77.f, hr _ (by omega), Option.bind_some, impl_Box_83.f, impl_Box_83.l0, if_pos (by rw [w64 (by omega) (by omega)]; omega), impl_Box_86.f, w64 (x := 0 + 1) (by omega) (by omega), show (0 : Int) + 1 = ((1 : Nat) : Int) from rfl, a4 m (by omega)]
  rfl
end Go.Proofs.Ytipdmnibjkdpcaa.Pure

namespace Go.Proofs.Ytipdmnibjkdpcaa.Pure
open Go.RowKit Go.Proofs.Ytipdmnibjkdpcaa.P Go.Proofs.YtipdmnibjkdpcaaW.PrintWords Go.Proofs.YtipdmnibjkdpcaaW.PrintLast
set_option linter.unusedVariables false
set_option linter.unusedSimpArgs false
def thin (y : List S64) : Nat → List S64
  | 0 => []
  | p + 1 => if p = 0 then [y.getD 0 z64] else if same (y.getD p z64) (y.getD (p - 1) z64) = true then thin y p else thin y p ++ [y.getD p z64]
theorem thin_spec (y : List S64) (hs : Srt y (y.length - 1)) : ∀ p, p ≤ y.length → (thin y p).Pairwise ltx ∧ (∀ s, s ∈ thin y p ↔ ∃ i, i < p ∧ y.getD i z64 = s) := by
  intro p
  induction p with
  | zero => intro _; exact ⟨List.Pairwise.nil, fun s => ⟨fun h => absurd h List.not_mem_nil, fun ⟨i, hi, _⟩ => absurd hi (Nat.not_lt_zero _)⟩⟩
  | succ p ih =>
    intro hp
    obtain ⟨h1, h2⟩ := ih (by omega)
    rw [thin]
    by_cases h0 : p = 0
    · subst h0
      rw [if_pos rfl]
      refine ⟨List.pairwise_singleton _ _, fun s => ?_⟩
      rw [List.mem_singleton]
      exact ⟨fun e => ⟨0, by omega, e.symm⟩, fun ⟨i, hi, e⟩ => by have h0 : i = 0 := (by omega); rw [← e, h0]⟩
    · rw [if_neg h0]
      by_cases hq : same (y.getD p z64) (y.getD (p - 1) z64) = true
      · rw [if_pos hq]
        refine ⟨h1, fun s => (h2 s).trans ⟨fun ⟨i, hi, e⟩ => ⟨i, by omega, e⟩, fun ⟨i, hi, e⟩ => ?_⟩⟩
        by_cases e2 : i = p
        · subst e2; exact ⟨i - 1, by omega, by rw [← same_iff.1 hq]; exact e⟩
        · exact ⟨i, by omega, e⟩
      · rw [if_neg hq]
        refine ⟨List.pairwise_append.2 ⟨h1, List.pairwise_singleton _ _, fun a ha b hb => ?_⟩, fun s => ?_⟩
        · rw [List.mem_singleton.1 hb]
          obtain ⟨i, hi, e⟩ := (h2 a).1 ha
          have g1 : ltx (y.getD (p - 1) z64) (y.getD p z64) := by
            apply Classical.byContradiction
            intro hn
            exact hq (same_iff.2 (ltx_eq (hs (p - 1) p (by omega) (by omega)) hn))
          subst e
          by_cases e2 : i = p - 1
          · rw [e2]; exact g1
          · exact ltx_le (hs i (p - 1) (by omega) (by omega)) g1
        · rw [List.mem_append, List.mem_singleton, h2 s]
          constructor
          · rintro (⟨i, hi, e⟩ | e)
            · exact ⟨i, by omega, e⟩
            · exact ⟨p, by omega, e.symm⟩
          · rintro ⟨i, hi, e⟩
            by_cases e2 : i = p
            · subst e2; exact .inr e.symm
            · exact .inl ⟨i, by omega, e⟩
theorem getD_drop (y : List S64) (k i : Nat) : (y.drop k).getD i z64 = y.getD (k + i) z64 := by
  simp only [List.getD_eq_getElem?_getD, List.getElem?_drop]
theorem take_set (x : List S64) (k : Nat) (v : S64) (h : k < x.length) : (x.set k v).take (k + 1) = x.take k ++ [v] := by
  rw [List.take_add_one, List.take_set_of_le (Nat.le_refl _), List.getElem?_set_self h]; rfl
theorem comp_l1 (y : List S64) (hn : y.length ≤ 1000) (k0 : Nat) : ∀ d k2 x0 k, y.length - (k0 + k2) = d → 1 ≤ k2 → k0 + k2 ≤ y.length → x0.length = y.length → k < k0 + k2 → x0.take k = thin y (k0 + k2) → k = (thin y (k0 + k2)).length →
    Ev (fun q => impl_Box_81.l1 q x0 (k : Int) (y.drop k0) (k2 : Int)) (thin y y.length) := by
  intro d
  induction d with
  | zero =>
    intro k2 x0 k hd h1 hi hx hk ht hl
    have e : k0 + k2 = y.length := by omega
    rw [e] at ht
    refine Ev.step (f := fun _ => some (thin y y.length)) (fun q => ?_) (Ev.now _)
    rw [impl_Box_81.l1, if_neg (by rw [List.length_drop]; omega), if_pos (by omega), if_pos (by omega), Int.toNat_natCast, ht]
  | succ d ih =>
    intro k2 x0 k hd h1 hi hx hk ht hl
    have ew : wrap64 ((k2 : Int) - 1) = ((k2 - 1 : Nat) : Int) := by rw [w64 (by omega) (by omega)]; omega
    have e3 : thin y (k0 + (k2 + 1)) = if same (y.getD (k0 + k2) z64) (y.getD (k0 + k2 - 1) z64) = true then thin y (k0 + k2) else thin y (k0 + k2) ++ [y.getD (k0 + k2) z64] := by
      rw [← Nat.add_assoc, thin, if_neg (by omega)]
    have g0 : rd_T64 (y.drop k0) (k2 : Int) = y.getD (k0 + k2) z64 := by rw [rdT, getD_drop]
    have g1 : rd_T64 (y.drop k0) ((k2 - 1 : Nat) : Int) = y.getD (k0 + k2 - 1) z64 := by rw [rdT, getD_drop]; congr 1; omega
    have hd2 : (y.drop k0).length = y.length - k0 := List.length_drop
    by_cases hq : same (y.getD (k0 + k2) z64) (y.getD (k0 + k2 - 1) z64) = true
    · rw [if_pos hq] at e3
      refine Ev.step (fun q => ?_) (ih (k2 + 1) x0 k (by omega) (by omega) (by omega) hx (by omega) (by rw [e3]; exact ht) (by rw [e3]; exact hl))
      rw [impl_Box_81.l1, if_pos (by omega), if_pos (by omega), ew, if_pos (by omega), if_pos (by omega), g0, g1, same_not, if_neg (by rw [hq]; simp), wN k2 (by omega)]
    · rw [if_neg hq] at e3
      refine Ev.step (fun q => ?_) (ih (k2 + 1) (x0.set k (y.getD (k0 + k2) z64)) (k + 1) (by omega) (by omega) (by omega) (by rw [List.length_set, hx]) (by omega) (by rw [e3, take_set x0 k _ (by omega), ht]) (by rw [e3, List.length_append, ← hl]; rfl))
      rw [impl_Box_81.l1, if_pos (by omega), if_pos (by omega), ew, if_pos (by omega), if_pos (by omega), g0, g1, same_not, if_pos (by simpa using hq), if_pos (by omega), if_pos (by omega), wN k2 (by omega), wN k (by omega), Int.toNat_natCast]
theorem comp_l0 (y : List S64) (hn : y.length ≤ 1000) : ∀ d i, y.length - i = d → 1 ≤ i → i ≤ y.length → thin y i = y.take i → Ev (fun q => impl_Box_81.l0 q y (i : Int)) (thin y y.length) := by
  intro d
  induction d with
  | zero =>
    intro i hd h1 hi ht
    obtain rfl : i = y.length := by omega
    rw [List.take_length] at ht
    refine Ev.step (f := fun _ => some y) (fun q => ?_) (by rw [ht]; exact Ev.now _)
    rw [impl_Box_81.l0, if_neg (by omega)]
  | succ d ih =>
    intro i hd h1 hi ht
    have ew : wrap64 ((i : Int) - 1) = ((i - 1 : Nat) : Int) := by rw [w64 (by omega) (by omega)]; omega
    have e3 : thin y (i + 1) = if same (y.getD i z64) (y.getD (i - 1) z64) = true then thin y i else thin y i ++ [y.getD i z64] := by
      rw [thin, if_neg (by omega)]
    have hl : (thin y i).length = i := by rw [ht, List.length_take]; omega
    by_cases hq : same (y.getD i z64) (y.getD (i - 1) z64) = true
    · rw [if_pos hq] at e3
      refine Ev.step (fun q => ?_) (comp_l1 y hn i _ 1 y i rfl (Nat.le_refl _) (by omega) rfl (by omega) (by rw [e3, ht]) (by rw [e3, hl]))
      have hq' : (((y.getD i z64).f0 == (y.getD (i - 1) z64).f0) && (((y.getD i z64).f1 == (y.getD (i - 1) z64).f1) && ((y.getD i z64).f2 == (y.getD (i - 1) z64).f2))) = true := hq
      rw [impl_Box_81.l0, if_pos (by omega), if_pos (by omega), ew, if_pos (by omega), if_pos (by omega), rdT, rdT, if_pos hq', if_pos (by omega), Int.toNat_natCast]
      rfl
    · rw [if_neg hq] at e3
      refine Ev.step (fun q => ?_) (ih (i + 1) (by omega) (by omega) (by omega) (by rw [e3, ht, List.take_add_one, List.getD_eq_getElem?_getD, List.getElem?_eq_getElem (by omega)]; rfl))
      have hq' : ¬ (((y.getD i z64).f0 == (y.getD (i - 1) z64).f0) && (((y.getD i z64).f1 == (y.getD (i - 1) z64).f1) && ((y.getD i z64).f2 == (y.getD (i - 1) z64).f2))) = true := hq
      rw [impl_Box_81.l0, if_pos (by omega), if_pos (by omega), ew, if_pos (by omega), if_pos (by omega), rdT, rdT, if_neg hq', wN i (by omega)]
theorem compF (y : List S64) (hn : y.length ≤ 1000) (h2 : 2 ≤ y.length) : Ev (fun q => impl_Box_81.f q y) (thin y y.length) := by
  obtain ⟨K, h⟩ := EvG (comp_l0 y hn _ 1 rfl (Nat.le_refl _) (by omega) (by
    rw [thin, if_pos rfl]
    cases y with
    | nil => simp at h2
    | cons a y => rfl))
  refine EvI K fun q hq => ?_
  rw [impl_Box_81.f, if_neg (by omega)]
  exact h q hq
end Go.Proofs.Ytipdmnibjkdpcaa.Pure

namespace Go.Proofs.Ytipdmnibjkdpcaa.Pure
open Go.RowKit Go.Proofs.Ytipdmnibjkdpcaa.P Go.Proofs.YtipdmnibjkdpcaaW.PrintWords Go.Proofs.YtipdmnibjkdpcaaW.PrintLast
set_option linter.unusedVariables false
set_option linter.unusedSimpArgs false
def six (a b c : Int) : List S64 := [⟨a, b, c⟩, ⟨a, c, b⟩, ⟨b, a, c⟩, ⟨b, c, a⟩, ⟨c, a, b⟩, ⟨c, b, a⟩]
theorem len6 : ∃ r, Ev (fun k => bits_Len.f k (IntKind.u64.wrap ((6 : Nat) : Int))) r := by
  have h : bits_Len.f 1 (IntKind.u64.wrap ((6 : Nat) : Int)) = some 3 := by decide +kernel
  exact ⟨3, Ev.of (fun k => bits_Len.mono _ k) h⟩
theorem turnsI (a b c : Int) : ∃ l : List S64, l.Pairwise ltx ∧ (∀ s, s ∈ l ↔ s ∈ six a b c) ∧ Ev (fun k => impl_Box_turns.f k a b c) l := by
  obtain ⟨r, hr⟩ := len6
  obtain ⟨y, hy1, hy2, hy3, hy4⟩ := sort_small (six a b c) (by simp [six]) (by simp [six]) r hr
  have hl : y.length = 6 := by rw [hy1]; rfl
  obtain ⟨h1, h2⟩ := thin_spec y (by rw [hy1]; exact hy3) y.length (Nat.le_refl _)
  refine ⟨thin y y.length, h1, fun s => ?_, ?_⟩
  · rw [h2 s, ← mem_getDG z64, hy2 s]
  · obtain ⟨K1, h4⟩ := EvG hy4
    obtain ⟨K2, h5⟩ := EvG (compF y (by omega) (by omega))
    refine EvI (K1 + K2) fun k hk => ?_
    rw [impl_Box_turns.f]
    show (impl_Box_77.f k (six a b c)).bind _ = _
    rw [h4 k (by omega), Option.bind_some, h5 k (by omega), Option.bind_some]
def ded : List S64 → List S64 → List S64
  | acc, [] => acc
  | acc, a :: l => if acc.any (fun x => same x a) = true then ded acc l else ded (acc ++ [a]) l
def Good : List S64 → List S64 → Prop
  | _, [] => True
  | acc, a :: l => (a ∈ acc ∧ Good acc l) ∨ ((∀ x ∈ acc, ltx x a) ∧ Good (acc ++ [a]) l)
theorem ded_spec : ∀ (l acc : List S64), acc.Pairwise ltx → Good acc l →
    (ded acc l).Pairwise ltx ∧ ∀ s, s ∈ ded acc l ↔ (s ∈ acc ∨ s ∈ l) := by
  intro l
  induction l with
  | nil => intro acc h _; exact ⟨h, fun s => by simp [ded]⟩
  | cons a l ih =>
    intro acc h h2
    rw [ded]
    rcases h2 with ⟨hm, h2⟩ | ⟨hn, h2⟩
    · have hq : (acc.any fun x => same x a) = true := List.any_eq_true.2 ⟨a, hm, same_iff.2 rfl⟩
      rw [if_pos hq]
      obtain ⟨g1, g2⟩ := ih acc h h2
      refine ⟨g1, fun s => (g2 s).trans ⟨fun e => e.imp id (List.mem_cons_of_mem _), fun e => ?_⟩⟩
      rcases e with e | e
      · exact .inl e
      · rcases List.mem_cons.1 e with e | e
        · rw [e]; exact .inl hm
        · exact .inr e
    · rw [if_neg (fun hq => by
        obtain ⟨x, hx, hs⟩ := List.any_eq_true.1 hq
        have := hn x hx
        rw [same_iff.1 hs] at this
        exact ltx_irrefl _ this)]
      obtain ⟨g1, g2⟩ := ih (acc ++ [a]) (List.pairwise_append.2 ⟨h, List.pairwise_singleton _ _, fun x hx b hb => by rw [List.mem_singleton.1 hb]; exact hn x hx⟩) h2
      refine ⟨g1, fun s => (g2 s).trans ?_⟩
      rw [List.mem_append, List.mem_singleton, List.mem_cons, or_assoc]
theorem sortS (a b c : Int) : ∃ p q r : Int, r ≤ q ∧ q ≤ p ∧ (∀ k, spec_l02Sort.f (k + 2) a b c = some (p, q, r)) ∧ (∀ s, s ∈ six p q r ↔ s ∈ six a b c) := by
  have e : ∀ k, spec_l02Sort.f (k + 2) a b c = if a < b then (if a < c then (if b < c then some (c, b, a) else some (b, c, a)) else (if b < a then some (a, b, c) else some (b, a, c))) else (if b < c then (if a < c then some (c, a, b) else some (a, c, b)) else (if a < b then some (b, a, c) else some (a, b, c))) := fun k => by
    rw [spec_l02Sort.f, spec_l02Sort.j0, spec_l02Sort.j0, spec_l02Sort.j1, spec_l02Sort.j1, spec_l02Sort.j1, spec_l02Sort.j1]
  have m1 : ∀ s, s ∈ six a b c ↔ s ∈ six a b c := fun s => Iff.rfl
  have m2 : ∀ s, s ∈ six b a c ↔ s ∈ six a b c := fun s => by simp only [six, List.mem_cons, List.not_mem_nil, or_false]; exact ⟨fun h => by rcases h with h | h | h | h | h | h <;> simp [h], fun h => by rcases h with h | h | h | h | h | h <;> simp [h]⟩
  have m3 : ∀ s, s ∈ six a c b ↔ s ∈ six a b c := fun s => by simp only [six, List.mem_cons, List.not_mem_nil, or_false]; exact ⟨fun h => by rcases h with h | h | h | h | h | h <;> simp [h], fun h => by rcases h with h | h | h | h | h | h <;> simp [h]⟩
  have m4 : ∀ s, s ∈ six c a b ↔ s ∈ six a b c := fun s => by simp only [six, List.mem_cons, List.not_mem_nil, or_false]; exact ⟨fun h => by rcases h with h | h | h | h | h | h <;> simp [h], fun h => by rcases h with h | h | h | h | h | h <;> simp [h]⟩
  have m5 : ∀ s, s ∈ six b c a ↔ s ∈ six a b c := fun s => by simp only [six, List.mem_cons, List.not_mem_nil, or_false]; exact ⟨fun h => by rcases h with h | h | h | h | h | h <;> simp [h], fun h => by rcases h with h | h | h | h | h | h <;> simp [h]⟩
  have m6 : ∀ s, s ∈ six c b a ↔ s ∈ six a b c := fun s => by simp only [six, List.mem_cons, List.not_mem_nil, or_false]; exact ⟨fun h => by rcases h with h | h | h | h | h | h <;> simp [h], fun h => by rcases h with h | h | h | h | h | h <;> simp [h]⟩
  by_cases h1 : a < b
  · by_cases h2 : a < c
    · by_cases h3 : b < c
      · exact ⟨c, b, a, by omega, by omega, fun k => by rw [e, if_pos h1, if_pos h2, if_pos h3], m6⟩
      · exact ⟨b, c, a, by omega, by omega, fun k => by rw [e, if_pos h1, if_pos h2, if_neg h3], m5⟩
    · exact ⟨b, a, c, by omega, by omega, fun k => by rw [e, if_pos h1, if_neg h2, if_neg (by omega)], m2⟩
  · by_cases h2 : b < c
    · by_cases h3 : a < c
      · exact ⟨c, a, b, by omega, by omega, fun k => by rw [e, if_neg h1, if_pos h2, if_pos h3], m4⟩
      · exact ⟨a, c, b, by omega, by omega, fun k => by rw [e, if_neg h1, if_pos h2, if_neg h3], m3⟩
    · exact ⟨a, b, c, by omega, by omega, fun k => by rw [e, if_neg h1, if_neg h2, if_neg h1], m1⟩
theorem turnsB (a b c : Int) : ∃ (l : List S64) (p q r : Int), l.Pairwise ltx ∧ (∀ s, s ∈ l ↔ s ∈ six a b c) ∧ Ev (fun k => impl_Box_turns.f k a b c) l ∧
    (∀ k, spec_l02Sort.f (k + 2) a b c = some (p, q, r)) ∧ 1 ≤ l.length ∧ l.length ≤ 900 ∧ l.getD (l.length - 1) z64 = ⟨p, q, r⟩ := by
  obtain ⟨l, h1, h2, h3⟩ := turnsI a b c
  obtain ⟨p, q, r, o1, o2, hs, hm⟩ := sortS a b c
  obtain ⟨al, hal⟩ : ∃ al : List S64, al = [⟨r, q, p⟩, ⟨r, p, q⟩, ⟨q, r, p⟩, ⟨q, p, r⟩, ⟨p, r, q⟩, ⟨p, q, r⟩] := ⟨_, rfl⟩
  have hall : al.length = 6 := by rw [hal]; rfl
  have hw : Good [] al := by
    rw [hal]
    by_cases e1 : r = q
    · subst e1
      by_cases e2 : r = p
      · subst e2
        simp [Good]
      · have e3 : r < p := by omega
        simp [Good, ltx, e3]
    · have e3 : r < q := by omega
      by_cases e2 : q = p
      · subst e2
        simp [Good, ltx, e3]
      · have e4 : q < p := by omega
        have e5 : r < p := by omega
        simp [Good, ltx, e3, e4, e5]
  obtain ⟨g1, g2⟩ := ded_spec al [] List.Pairwise.nil hw
  have hmem : ∀ s, s ∈ al ↔ s ∈ six a b c := fun s => by
    rw [← hm s, hal]
    simp only [six, List.mem_cons, List.not_mem_nil, or_false]
    exact ⟨fun h => by rcases h with h | h | h | h | h | h <;> simp [h], fun h => by rcases h with h | h | h | h | h | h <;> simp [h]⟩
  have hd : ded [] al = l := rise_uniq _ _ g1 h1 (fun s => by rw [g2 s, h2 s, ← hmem s]; simp)
  have hlast : (⟨p, q, r⟩ : S64) ∈ l := by rw [h2, ← hmem, hal]; simp
  have hpos : 1 ≤ l.length := List.length_pos_of_mem hlast
  have hle : l.length ≤ 900 := by
    have hdl : ∀ (x acc : List S64), (ded acc x).length ≤ acc.length + x.length := by
      intro x
      induction x with
      | nil => intro acc; simp [ded]
      | cons t x ih =>
        intro acc
        rw [ded]
        split
        · have := ih acc; simp; omega
        · have := ih (acc ++ [t]); simp at this ⊢; omega
    have := hdl al []
    rw [hd, hall] at this
    simp at this; omega
  refine ⟨l, p, q, r, h1, h2, h3, hs, hpos, hle, ?_⟩
  obtain ⟨i, hi, hie⟩ := (mem_getDG z64 l _).1 hlast
  by_cases e : i = l.length - 1
  · rw [← e, hie]
  · exfalso
    have hlt := List.pairwise_iff_getElem.1 h1 i (l.length - 1) hi (by omega) (by omega)
    rw [← getD_eqG z64 l i hi, ← getD_eqG z64 l _ (by omega), hie] at hlt
    have hin : l.getD (l.length - 1) z64 ∈ al := by rw [hmem, ← h2, getD_eqG z64 l _ (by omega)]; exact List.getElem_mem _
    rw [hal] at hin
    generalize l.getD (l.length - 1) z64 = s at hlt hin
    simp only [List.mem_cons, List.not_mem_nil, or_false] at hin
    unfold ltx at hlt
    rcases hin with rfl | rfl | rfl | rfl | rfl | rfl <;> simp only at hlt <;> omega
end Go.Proofs.Ytipdmnibjkdpcaa.Pure

namespace Go.Proofs.Ytipdmnibjkdpcaa.Pure
open Go.RowKit Go.Proofs.Ytipdmnibjkdpcaa.P Go.Proofs.YtipdmnibjkdpcaaW.PrintWords Go.Proofs.YtipdmnibjkdpcaaW.PrintLast
set_option linter.unusedVariables false
set_option linter.unusedSimpArgs false
theorem eqBF (a b c : Int) : laws_eqBox.f a b c a b c = some true := by
  rw [laws_eqBox.f, if_pos rfl, if_pos rfl, if_pos rfl]
theorem eqB_l0 (l : List S64) (hb : l.length ≤ 17592186044415) : ∀ d i, l.length - i = d → i ≤ l.length → Ev (fun k => laws_eqBoxS.l0 k l l (i : Int)) true := by
  intro d
  induction d with
  | zero =>
    intro i hd hi
    refine Ev.step (f := fun _ => some true) (fun k => ?_) (Ev.now _)
    rw [laws_eqBoxS.l0, if_neg (by omega)]
  | succ d ih =>
    intro i hd hi
    refine Ev.step (fun k => ?_) (ih (i + 1) (by omega) (by omega))
    rw [laws_eqBoxS.l0, if_pos (by omega), if_pos (by omega), if_pos (by omega), eqBF, Option.bind_some, if_pos rfl, wN i (by omega)]
theorem eqB (l : List S64) (hb : l.length ≤ 17592186044415) : Ev (fun k => laws_eqBoxS.f k l l) true := by
  refine Ev.congr (f := fun k => laws_eqBoxS.l0 k l l ((0 : Nat) : Int)) (fun k => ?_) (eqB_l0 l hb _ 0 rfl (Nat.zero_le _))
  rw [laws_eqBoxS.f, if_pos rfl]; rfl
theorem getD_memG (l : List S64) (i : Nat) (h : i < l.length) : l.getD i z64 ∈ l := by rw [getD_eqG z64 l i h]; exact List.getElem_mem h
end Go.Proofs.Ytipdmnibjkdpcaa.Pure

namespace Go.Proofs.Ytipdmnibjkdpcaa.Pure
open Go.RowKit Go.Proofs.Ytipdmnibjkdpcaa.P Go.Proofs.YtipdmnibjkdpcaaW.PrintWords Go.Proofs.YtipdmnibjkdpcaaW.PrintLast
set_option linter.unusedVariables false
set_option linter.unusedSimpArgs false
def mkE (m : Nat) : S64 := ⟨IntKind.i8.wrap (m : Int), IntKind.i8.wrap ((m + 1 : Nat) : Int), IntKind.i8.wrap ((m + 2 : Nat) : Int)⟩
def mkB (n : Nat) : List S64 := (List.range n).map fun i => mkE (1 + 3 * i)
theorem mkB_len (n : Nat) : (mkB n).length = n := by simp [mkB]
theorem mkB_at (n i : Nat) (h : i < n) : (mkB n).getD i z64 = mkE (1 + 3 * i) := by
  simp [mkB, List.getD_eq_getElem?_getD, h]
theorem list_extB (a b : List S64) (hl : a.length = b.length) (h : ∀ j, j < b.length → a.getD j z64 = b.getD j z64) : a = b := by
  apply List.ext_getElem hl
  intro i h1 h2
  have := h i h2
  rwa [getD_eqG z64 a i h1, getD_eqG z64 b i h2] at this
theorem markB_l0 (n : Nat) (hb : n ≤ 2000000) : ∀ d i x, n - i = d → i ≤ n → x.length = n → (∀ j, j < i → x.getD j z64 = mkE (1 + 3 * j)) →
    Ev (fun k => laws_markBoxS.l0 k x ((1 + 3 * i : Nat) : Int) (i : Int)) (((1 + 3 * n : Nat) : Int), mkB n) := by
  intro d
  induction d with
  | zero =>
    intro i x hd hi hx hj
    obtain rfl : i = n := by omega
    refine Ev.step (f := fun _ => some (((1 + 3 * i : Nat) : Int), x)) (fun k => ?_) ?_
    · rw [laws_markBoxS.l0, if_neg (by omega)]
    · have : x = mkB i := list_extB x _ (by rw [mkB_len]; exact hx) (fun j h => by rw [mkB_len] at h; rw [hj j h, mkB_at i j h])
      rw [this]; exact Ev.now _
  | succ d ih =>
    intro i x hd hi hx hj
    refine Ev.step (fun k => ?_) (ih (i + 1) (x.set i (mkE (1 + 3 * i))) (by omega) (by omega) (by simpa using hx) ?_)
    · rw [laws_markBoxS.l0, if_pos (by omega), if_pos (by omega), Option.bind_some, Option.bind_some]
      rw [wN (1 + 3 * i) (by omega), wN (1 + 3 * i + 1) (by omega), wN (1 + 3 * i + 1 + 1) (by omega), wN i (by omega)]
      simp only [Int.toNat_natCast, rdT]
      rw [getD_setG z64 _ i i _ (by rw [hx]; omega), if_pos rfl, getD_setG z64 _ i i _ (by rw [List.length_set, hx]; omega), if_pos rfl, List.set_set, List.set_set]
      rfl
    · intro j h
      rw [getD_setG z64 x i j _ (by omega)]
      by_cases e : i = j
      · rw [if_pos e, e]
      · rw [if_neg e]; exact hj j (by omega)
theorem markB (l : List S64) (hb : l.length ≤ 2000000) : Ev (fun k => laws_markBoxS.f k l 1) (((1 + 3 * l.length : Nat) : Int), mkB l.length) :=
  markB_l0 l.length hb _ 0 l rfl (Nat.zero_le _) rfl (fun j h => absurd h (Nat.not_lt_zero _))
end Go.Proofs.Ytipdmnibjkdpcaa.Pure

namespace Go.Proofs.Ytipdmnibjkdpcaa.Pure
open Go.RowKit Go.Proofs.Ytipdmnibjkdpcaa.P Go.Proofs.YtipdmnibjkdpcaaW.PrintWords Go.Proofs.YtipdmnibjkdpcaaW.PrintLast
set_option linter.unusedVariables false
set_option linter.unusedSimpArgs false
theorem rdT66 (l : List S66) (i : Nat) : rd_T66 l (i : Int) = l.getD i z66 := rfl
theorem list_extT (a b : List S64) (hl : a.length = b.length) (h : ∀ j, j < b.length → a.getD j z64 = b.getD j z64) : a = b := by
  apply List.ext_getElem hl
  intro i h1 h2
  have := h i h2
  rwa [getD_eqG z64 a i h1, getD_eqG z64 b i h2] at this
def cvb (x : S66) : S64 := ⟨x.f0, x.f1, x.f2⟩
theorem szB (l : List S66) (a : Int) (h0 : 0 ≤ a) (h1 : a ≤ 1048576) (hl : l.length ≤ 9223372036854775807) : laws_szBoxS.f l a = some (if (l.length : Int) ≤ a then a - l.length else -1) := by
  unfold laws_szBoxS.f
  rw [w64 (by omega) (by omega)]
  split <;> split <;> first | rfl | omega
theorem toBS_l0 (l : List S66) (hb : l.length ≤ 1048576) : ∀ d i (x : List S64), l.length - i = d → i ≤ l.length → x.length = l.length → (∀ j, j < i → x.getD j z64 = cvb (l.getD j z66)) → Ev (fun k => laws_toBoxS.l0 k l x (i : Int)) (l.map cvb) := by
  intro d
  induction d with
  | zero =>
    intro i x hd hi hx hj
    refine Ev.step (f := fun _ => some x) (fun k => ?_) ?_
    · rw [laws_toBoxS.l0, if_neg (by omega)]
    · have : x = l.map cvb := list_extT x _ (by rw [List.length_map, hx]) (fun j h => by
        rw [List.length_map] at h
        rw [hj j (by omega), getD_eqG z64 _ j (by rw [List.length_map]; exact h), List.getElem_map, getD_eqG z66 l j h])
      rw [this]; exact Ev.now _
  | succ d ih =>
    intro i x hd hi hx hj
    refine Ev.step (fun k => ?_) (ih (i + 1) (x.set i (cvb (l.getD i z66))) (by omega) (by omega) (by simpa using hx) ?_)
    · rw [laws_toBoxS.l0, if_pos (by omega), if_pos (by omega), toB, Option.bind_some, if_pos (by omega), wN i (by omega), rdT66, Int.toNat_natCast]
      rfl
    · intro j h
      rw [getD_setG z64 x i j _ (by omega)]
      by_cases e : i = j
      · rw [if_pos e, e]
      · rw [if_neg e]; exact hj j (by omega)
theorem toBS (l : List S66) (hb : l.length ≤ 1048576) : Ev (fun k => laws_toBoxS.f k l) (l.map cvb) := by
  refine Ev.congr (f := fun k => laws_toBoxS.l0 k l (List.replicate l.length z64) ((0 : Nat) : Int)) (fun k => ?_) (toBS_l0 l hb _ 0 _ rfl (Nat.zero_le _) (by simp) (fun j h => absurd h (Nat.not_lt_zero _)))
  simp only [laws_toBoxS.f, Int.toNat_natCast]
  rw [if_pos (by omega), if_pos (by omega)]; rfl
def okS (s : S64) : Bool := okB s.f0 s.f1 s.f2
def boxesOk (l : List S64) : Bool := decide (l.length ≤ 10) && l.all okS
def wfS (l : List S64) : Prop := ∀ s ∈ l, (Lit.int .i8 s.f0).wf = true ∧ (Lit.int .i8 s.f1).wf = true ∧ (Lit.int .i8 s.f2).wf = true
theorem wf_cvb {l : List S66} (h : ∀ x ∈ l, (Lit.int .i8 x.f0).wf = true ∧ (Lit.int .i8 x.f1).wf = true ∧ (Lit.int .i8 x.f2).wf = true) : wfS (l.map cvb) := by
  intro s hs
  obtain ⟨x, hx, rfl⟩ := List.mem_map.1 hs
  exact h x hx
theorem any_l0 (l : List S64) (hb : l.length ≤ 1048576) (hw : wfS l) : ∀ d i, l.length - i = d → i ≤ l.length → (∀ j, j < i → okS (l.getD j z64) = true) → ∃ r : Int, Ev (fun k => impl_Box_72.l0 k l (l.length : Int) (i : Int)) r ∧ decide (r ≥ 0) = !(l.all okS) := by
  intro d
  induction d with
  | zero =>
    intro i hd hi hj
    refine ⟨-1, Ev.step (f := fun _ => some (-1)) (fun k => by rw [impl_Box_72.l0, if_neg (by omega)]) (Ev.now _), ?_⟩
    have e : l.all okS = true := List.all_eq_true.2 (fun s hs => by
      obtain ⟨j, h1, rfl⟩ := (mem_getDG z64 l s).1 hs
      exact hj j (by omega))
    rw [e]; rfl
  | succ d ih =>
    intro i hd hi hj
    obtain ⟨w0, w1, w2⟩ := hw _ (getD_memG l i (by omega))
    have e : ∀ k, impl_Box_72.l0 (k + 1) l (l.length : Int) (i : Int) = if (!okS (l.getD i z64)) = true then some (i : Int) else impl_Box_72.l0 k l (l.length : Int) ((i + 1 : Nat) : Int) := fun k => by
      rw [impl_Box_72.l0, if_pos (by omega), if_pos (by omega), if_pos (by omega), impl_boxesCode_1.f, rdT, implOk w0 w1 w2, Option.bind_some, Option.bind_some, wN i (by omega)]
      rfl
    by_cases c : okS (l.getD i z64) = true
    · obtain ⟨r, r1, r2⟩ := ih (i + 1) (by omega) (by omega) (fun j h => by
        by_cases e : j = i
        · subst e; exact c
        · exact hj j (by omega))
      exact ⟨r, Ev.step (fun k => by rw [e, c, if_neg (by decide)]) r1, r2⟩
    · have c' : okS (l.getD i z64) = false := by simpa using c
      refine ⟨(i : Int), Ev.step (f := fun _ => some (i : Int)) (fun k => by rw [e, c', if_pos (by decide)]) (Ev.now _), ?_⟩
      have e : l.all okS = false := by
        cases h : l.all okS with
        | false => rfl
        | true => exact absurd (List.all_eq_true.1 h _ (getD_memG l i (by omega))) c
      rw [e]; simp
theorem codeI (l : List S64) (hb : l.length ≤ 1048576) (hw : wfS l) : Ev (fun k => impl_boxesCode.f k l) (if boxesOk l = true then 0 else 1) := by
  obtain ⟨r, r1, r2⟩ := any_l0 l hb hw _ 0 rfl (Nat.zero_le _) (fun j h => absurd h (Nat.not_lt_zero _))
  obtain ⟨K, r1⟩ := EvG r1
  refine EvI K fun k hk => ?_
  have h1 : impl_Box_72.f k l = some r := r1 k hk
  rw [impl_boxesCode.f, boxesOk]
  by_cases c : l.length ≤ 10
  · rw [if_pos (by omega), impl_Box_60.f, h1, Option.bind_some, Option.bind_some, r2, Bool.not_not, impl_unless.f, decide_eq_true c, Bool.true_and]
    cases l.all okS <;> rfl
  · rw [if_neg (by omega), impl_unless.f, decide_eq_false c, Bool.false_and]
    rfl
theorem boxes_l0 (l : List S64) (hb : l.length ≤ 1048576) (hw : wfS l) : ∀ d i, l.length - i = d → i ≤ l.length → (∀ j, j < i → okS (l.getD j z64) = true) → Ev (fun k => spec_l02Boxes.l0 k l (i : Int)) (boxesOk l) := by
  intro d
  induction d with
  | zero =>
    intro i hd hi hj
    have e : l.all okS = true := List.all_eq_true.2 (fun s hs => by
      obtain ⟨j, h1, rfl⟩ := (mem_getDG z64 l s).1 hs
      exact hj j (by omega))
    refine Ev.step (f := fun _ => some (boxesOk l)) (fun k => ?_) (Ev.now _)
    rw [spec_l02Boxes.l0, if_neg (by omega), boxesOk, e, Bool.and_true]
    congr 1
    by_cases c : l.length ≤ 10 <;> simp [c] <;> omega
  | succ d ih =>
    intro i hd hi hj
    obtain ⟨w0, w1, w2⟩ := hw _ (getD_memG l i (by omega))
    have e : ∀ k, spec_l02Boxes.l0 (k + 1) l (i : Int) = if okS (l.getD i z64) = true then spec_l02Boxes.l0 k l ((i + 1 : Nat) : Int) else some false := fun k => by
      rw [spec_l02Boxes.l0, if_pos (by omega), if_pos (by omega), rdT, specOk w0 w1 w2, Option.bind_some, wN i (by omega)]
      rfl
    by_cases c : okS (l.getD i z64) = true
    · exact Ev.step (fun k => by rw [e, if_pos c]) (ih (i + 1) (by omega) (by omega) (fun j h => by
        by_cases e : j = i
        · subst e; exact c
        · exact hj j (by omega)))
    · have e2 : boxesOk l = false := by
        have : l.all okS = false := by
          cases h : l.all okS with
          | false => rfl
          | true => exact absurd (List.all_eq_true.1 h _ (getD_memG l i (by omega))) c
        rw [boxesOk, this, Bool.and_false]
      rw [e2]
      exact Ev.step (f := fun _ => some false) (fun k => by rw [e, if_neg c]) (Ev.now _)
theorem codeS (l : List S64) (hb : l.length ≤ 1048576) (hw : wfS l) : Ev (fun k => spec_l02Boxes.f k l) (boxesOk l) :=
  boxes_l0 l hb hw _ 0 rfl (Nat.zero_le _) (fun j h => absurd h (Nat.not_lt_zero _))
end Go.Proofs.Ytipdmnibjkdpcaa.Pure

namespace Go.Proofs.Ytipdmnibjkdpcaa.Pure
open Go.RowKit Go.Proofs.Ytipdmnibjkdpcaa.P Go.Proofs.YtipdmnibjkdpcaaW.PrintWords Go.Proofs.YtipdmnibjkdpcaaW.PrintLast
set_option linter.unusedVariables false
theorem sortedB (a b c : Int) : ∃ p q r : Int, Ev (fun k => impl_Box_sorted.f k a b c) (p, q, r) ∧ Ev (fun k => spec_l02Sort.f k a b c) (p, q, r) := by
  obtain ⟨l, p, q, r, _, _, hI, hs, h1, h9, hl⟩ := turnsB a b c
  obtain ⟨K, hI⟩ := EvG hI
  have ew : wrap64 ((l.length : Int) - 1) = ((l.length - 1 : Nat) : Int) := by rw [w64 (by omega) (by omega)]; omega
  refine ⟨p, q, r, EvI K fun k hk => ?_, EvI 2 fun k hk => ?_⟩
  · rw [impl_Box_sorted.f, hI k hk, Option.bind_some, ew, if_pos (by omega), if_pos (by omega), rdT, hl]
  · obtain ⟨m, rfl⟩ : ∃ m, k = m + 2 := ⟨k - 2, by omega⟩
    exact hs m
theorem insideB (a b c u v w : Int) : ∃ t : Bool, Ev (fun k => impl_Box_inside.f k a b c u v w) t ∧ Ev (fun k => spec_l02Inside.f k a b c u v w) t := by
  obtain ⟨p, q, r, i1, s1⟩ := sortedB a b c
  obtain ⟨x, y, z, i2, s2⟩ := sortedB u v w
  obtain ⟨K1, i1⟩ := EvG i1
  obtain ⟨K2, i2⟩ := EvG i2
  obtain ⟨K3, s1⟩ := EvG s1
  obtain ⟨K4, s2⟩ := EvG s2
  have eI : ∀ k, K1 + K2 ≤ k → impl_Box_inside.f k a b c u v w = if p < x then (if q < y then some (decide (r < z)) else some false) else some false := fun k hk => by
    rw [impl_Box_inside.f, i1 k (by omega), Option.bind_some, i2 k (by omega), Option.bind_some]
  have eS : ∀ k, K3 + K4 ≤ k → spec_l02Inside.f k a b c u v w = if p < x then (if q < y then some (decide (r < z)) else some false) else some false := fun k hk => by
    rw [spec_l02Inside.f, s1 k (by omega), Option.bind_some, s2 k (by omega), Option.bind_some]
  by_cases c1 : p < x
  · by_cases c2 : q < y
    · exact ⟨_, EvI _ fun k hk => by rw [eI k hk, if_pos c1, if_pos c2], EvI _ fun k hk => by rw [eS k hk, if_pos c1, if_pos c2]⟩
    · exact ⟨_, EvI _ fun k hk => by rw [eI k hk, if_pos c1, if_neg c2], EvI _ fun k hk => by rw [eS k hk, if_pos c1, if_neg c2]⟩
  · exact ⟨_, EvI _ fun k hk => by rw [eI k hk, if_neg c1], EvI _ fun k hk => by rw [eS k hk, if_neg c1]⟩
end Go.Proofs.Ytipdmnibjkdpcaa.Pure

namespace Go.Proofs.Ytipdmnibjkdpcaa.P
open Go.RowKit Go.Proofs.YtipdmnibjkdpcaaW.PrintWords Go.Proofs.YtipdmnibjkdpcaaW.PrintLast Go.Proofs.YtipdmnibjkdpcaaW.PrintMore
attribute [local go_sem] max2_int min2_int max_two min_two max_three min_three max_four min_four
set_option linter.unusedVariables false
set_option linter.unusedSimpArgs false
def impl_nested.f (k : Nat) (a0_0 : Int) (a0_1 : Int) (a0_2 : Int) (a1_0 : Int) (a1_1 : Int) (a1_2 : Int) : Option (Bool) := (impl_Box_inside.f k a0_0 a0_1 a0_2 a1_0 a1_1 a1_2).bind fun t381 => (if t381 = true then (some true) else ((impl_Box_inside.f k a1_0 a1_1 a1_2 a0_0 a0_1 a0_2).bind fun t382 => (some t382)))
end Go.Proofs.Ytipdmnibjkdpcaa.P

namespace Go.Proofs.Ytipdmnibjkdpcaa.Pure
open Go.RowKit Go.Proofs.Ytipdmnibjkdpcaa.P Go.Proofs.YtipdmnibjkdpcaaW.PrintWords Go.Proofs.YtipdmnibjkdpcaaW.PrintLast
set_option linter.unusedVariables false
set_option linter.unusedSimpArgs false
noncomputable def insS (s t : S64) : Bool := (insideB s.f0 s.f1 s.f2 t.f0 t.f1 t.f2).choose
noncomputable def nestS (s t : S64) : Bool := insS s t || insS t s
theorem insS_i (s t : S64) : Ev (fun k => impl_Box_inside.f k s.f0 s.f1 s.f2 t.f0 t.f1 t.f2) (insS s t) := (insideB s.f0 s.f1 s.f2 t.f0 t.f1 t.f2).choose_spec.1
theorem insS_s (s t : S64) : Ev (fun k => spec_l02Inside.f k s.f0 s.f1 s.f2 t.f0 t.f1 t.f2) (insS s t) := (insideB s.f0 s.f1 s.f2 t.f0 t.f1 t.f2).choose_spec.2
theorem ownF (b : List Int) (h : b.length < 17592186044416) : spec_l00Own.f b = some b := by
  rw [spec_l00Own.f, Option.bind_some, if_pos (by simpa using h), List.nil_append]
theorem rdB (l : List S64) (x : Int) : rd_T64 l x = l.getD x.toNat z64 := rfl
theorem rdL1 (l : List (List Int)) (i : Nat) : rd_L1 l (i : Int) = l.getD i [] := rfl
end Go.Proofs.Ytipdmnibjkdpcaa.Pure

namespace Go.Proofs.Ytipdmnibjkdpcaa.P
open Go.RowKit Go.Proofs.YtipdmnibjkdpcaaW.PrintWords Go.Proofs.YtipdmnibjkdpcaaW.PrintLast Go.Proofs.YtipdmnibjkdpcaaW.PrintMore
attribute [local go_sem] max2_int min2_int max_two min_two max_three min_three max_four min_four
set_option linter.unusedVariables false
set_option linter.unusedSimpArgs false
def cmp_isNaN_int64.f (a0 : Int) : Option (Bool) := some (a0 != a0)
end Go.Proofs.Ytipdmnibjkdpcaa.P

namespace Go.Proofs.Ytipdmnibjkdpcaa.P
open Go.RowKit Go.Proofs.YtipdmnibjkdpcaaW.PrintWords Go.Proofs.YtipdmnibjkdpcaaW.PrintLast Go.Proofs.YtipdmnibjkdpcaaW.PrintMore
attribute [local go_sem] max2_int min2_int max_two min_two max_three min_three max_four min_four
set_option linter.unusedVariables false
set_option linter.unusedSimpArgs false
def cmp_Compare_int64.f (a0 : Int) (a1 : Int) : Option (Int) := (cmp_isNaN_int64.f a0).bind fun t465 => ((cmp_isNaN_int64.f a1).bind fun t466 => (if t465 = true then (if t466 = true then (some 0) else (some (-1))) else (if t466 = true then (some 1) else (if a0 < a1 then (some (-1)) else (if a0 > a1 then (some 1) else (some 0))))))
end Go.Proofs.Ytipdmnibjkdpcaa.P

namespace Go.Proofs.Ytipdmnibjkdpcaa.P
open Go.RowKit Go.Proofs.YtipdmnibjkdpcaaW.PrintWords Go.Proofs.YtipdmnibjkdpcaaW.PrintLast Go.Proofs.YtipdmnibjkdpcaaW.PrintMore
attribute [local go_sem] max2_int min2_int max_two min_two max_three min_three max_four min_four
set_option linter.unusedVariables false
set_option linter.unusedSimpArgs false
def slices_Compare_int64_int64.l0 : Nat → List Int → List Int → List Int → Int → Int → Option (Int)
  | 0, _, _, _, _, _ => none
  | k + 1, x0, x1, x9, x10, x11 => if x11 < x10 then (if 0 ≤ x11 then (if x11 < (x9.length : Int) then (if x11 ≥ (x1.length : Int) then (some 1) else (if x11 < (x1.length : Int) then ((cmp_Compare_int64.f (rd x9 x11) (rd x1 x11)).bind fun t469 => (if t469 = 0 then (slices_Compare_int64_int64.l0 k x0 x1 x9 x10 (wrap64 (x11 + 1))) else (some t469))) else (none))) else (none)) else (none)) else (if (x0.length : Int) < (x1.length : Int) then (some (-1)) else (some 0))
def slices_Compare_int64_int64.f (k : Nat) (l0 : List Int) (l1 : List Int) : Option (Int) := slices_Compare_int64_int64.l0 k l0 l1 l0 (l0.length : Int) 0
end Go.Proofs.Ytipdmnibjkdpcaa.P

namespace Go.Proofs.Ytipdmnibjkdpcaa.P
open Go.RowKit Go.Proofs.YtipdmnibjkdpcaaW.PrintWords Go.Proofs.YtipdmnibjkdpcaaW.PrintLast Go.Proofs.YtipdmnibjkdpcaaW.PrintMore
attribute [local go_sem] max2_int min2_int max_two min_two max_three min_three max_four min_four
set_option linter.unusedVariables false
set_option linter.unusedSimpArgs false
mutual
def impl_longest.l0 (q : List Int → Option Bool) : Nat → Int → List Int → Int → Int → Option (List Int)
  | 0, _, _, _, _ => none
  | k + 1, x0, x5, x11, x12 => if x12 < x11 then (impl_longest.l1 q k x0 x5 x12 (([] : List Int)) x11 x12 x0 0) else (some x5)
def impl_longest.l1 (q : List Int → Option Bool) : Nat → Int → List Int → Int → List Int → Int → Int → Int → Int → Option (List Int)
  | 0, _, _, _, _, _, _, _, _ => none
  | k + 1, x0, x5, x6, x7, x11, x12, x16, x17 => if x17 < x16 then (if 0 ≤ x17 then (if (Go.bits .and .i64 (shr .i64 x6 x17) 1) = 1 then (if x7.length < 17592186044416 then (impl_longest.l1 q k x0 x5 x6 (x7 ++ [x17]) x11 x12 x16 (wrap64 (x17 + 1))) else (none)) else (impl_longest.l1 q k x0 x5 x6 x7 x11 x12 x16 (wrap64 (x17 + 1)))) else (none)) else (if (x7.length : Int) > (x5.length : Int) then ((q x7).bind fun t845 => (if t845 = true then (impl_longest.l0 q k x0 x7 x11 (wrap64 (x12 + 1))) else (impl_longest.l0 q k x0 x5 x11 (wrap64 (x12 + 1))))) else (if (x7.length : Int) = (x5.length : Int) then ((slices_Compare_int64_int64.f k x7 x5).bind fun t846 => (if t846 < 0 then ((q x7).bind fun t847 => (if t847 = true then (impl_longest.l0 q k x0 x7 x11 (wrap64 (x12 + 1))) else (impl_longest.l0 q k x0 x5 x11 (wrap64 (x12 + 1))))) else (impl_longest.l0 q k x0 x5 x11 (wrap64 (x12 + 1))))) else (impl_longest.l0 q k x0 x5 x11 (wrap64 (x12 + 1)))))
end
def impl_longest.f (q : List Int → Option Bool) (k : Nat) (a0 : Int) : Option (List Int) := if 0 ≤ a0 then (impl_longest.l0 q k a0 (([] : List Int)) (shl .i64 1 a0) 0) else (none)
end Go.Proofs.Ytipdmnibjkdpcaa.P

namespace Go.Proofs.Ytipdmnibjkdpcaa.Pure
open Go.RowKit Go.Proofs.Ytipdmnibjkdpcaa.P Go.Proofs.YtipdmnibjkdpcaaW.PrintWords Go.Proofs.YtipdmnibjkdpcaaW.PrintLast
set_option linter.unusedVariables false
set_option linter.unusedSimpArgs false
def ow (s : Nat) : Nat → List Int
  | 0 => []
  | i + 1 => if s.testBit i = true then ow s i ++ [(i : Int)] else ow s i
def Inc (n : Nat) : Nat → List Int → Prop
  | _, [] => True
  | lo, x :: xs => ∃ i : Nat, x = (i : Int) ∧ lo ≤ i ∧ i < n ∧ Inc n (i + 1) xs
theorem Inc.up {n m : Nat} (hm : n ≤ m) : ∀ {lo : Nat} {L : List Int}, Inc n lo L → Inc m lo L
  | _, [], _ => trivial
  | _, _ :: _, ⟨i, e, h1, h2, h3⟩ => ⟨i, e, h1, by omega, h3.up hm⟩
theorem Inc.low {n lo lo' : Nat} (hl : lo' ≤ lo) : ∀ {L : List Int}, Inc n lo L → Inc n lo' L
  | [], _ => trivial
  | _ :: _, ⟨i, e, h1, h2, h3⟩ => ⟨i, e, by omega, h2, h3⟩
theorem Inc.snoc {n : Nat} : ∀ {lo : Nat} {L : List Int}, lo ≤ n → Inc n lo L → Inc (n + 1) lo (L ++ [(n : Int)])
  | lo, [], h, _ => ⟨n, rfl, h, by omega, trivial⟩
  | lo, _ :: _, h, ⟨i, e, h1, h2, h3⟩ => ⟨i, e, h1, by omega, Inc.snoc (by omega) h3⟩
theorem Inc.split {n : Nat} : ∀ {lo : Nat} {L : List Int}, Inc (n + 1) lo L → Inc n lo L ∨ ∃ L', L = L' ++ [(n : Int)] ∧ Inc n lo L'
  | _, [], _ => Or.inl trivial
  | lo, x :: xs, ⟨i, e, h1, h2, h3⟩ => by
    rcases Inc.split h3 with h | ⟨L', e', h⟩
    · by_cases c : i < n
      · exact Or.inl ⟨i, e, h1, c, h⟩
      · have hi : i = n := by omega
        subst hi
        cases xs with
        | nil => exact Or.inr ⟨[], by rw [e]; rfl, trivial⟩
        | cons y ys =>
          obtain ⟨j, _, j1, j2, _⟩ := h
          omega
    · refine Or.inr ⟨x :: L', by rw [e']; rfl, i, e, h1, ?_, h⟩
      subst e'
      by_cases c : i < n
      · exact c
      · exfalso
        cases L' with
        | nil => obtain ⟨j, f, j1, j2, _⟩ := h3; omega
        | cons y ys => obtain ⟨j, f, j1, j2, _⟩ := h; omega
theorem Inc.len {n : Nat} : ∀ {lo : Nat} {L : List Int}, lo ≤ n → Inc n lo L → L.length + lo ≤ n
  | lo, [], h, _ => by simpa using h
  | lo, _ :: _, h, ⟨i, e, h1, h2, h3⟩ => by have := Inc.len (by omega) h3; simp only [List.length_cons]; omega
def lexL : List Int → List Int → Prop
  | a :: as_, b :: bs => a < b ∨ (a = b ∧ lexL as_ bs)
  | _, _ => False
theorem lexL.trans : ∀ {a b c : List Int}, lexL a b → lexL b c → lexL a c
  | [], _, _, h, _ => h.elim
  | _ :: _, [], _, h, _ => h.elim
  | _ :: _, _ :: _, [], _, h => h.elim
  | x :: xs, y :: ys, z :: zs, h, k => by
    rcases h with h | ⟨e, h⟩
    · rcases k with k | ⟨f, k⟩
      · exact Or.inl (by omega)
      · exact Or.inl (by omega)
    · rcases k with k | ⟨f, k⟩
      · exact Or.inl (by omega)
      · exact Or.inr ⟨by omega, h.trans k⟩
theorem lexL.tri : ∀ {a b : List Int}, a.length = b.length → lexL a b ∨ a = b ∨ lexL b a
  | [], [], _ => Or.inr (Or.inl rfl)
  | x :: xs, y :: ys, h => by
    by_cases c : x < y
    · exact Or.inl (Or.inl c)
    · by_cases d : y < x
      · exact Or.inr (Or.inr (Or.inl d))
      · obtain rfl : x = y := by omega
        rcases lexL.tri (a := xs) (b := ys) (by simpa using h) with k | k | k
        · exact Or.inl (Or.inr ⟨rfl, k⟩)
        · exact Or.inr (Or.inl (by rw [k]))
        · exact Or.inr (Or.inr (Or.inr ⟨rfl, k⟩))
def Dom (L M : List Int) : Prop := M.length < L.length ∨ (M.length = L.length ∧ (M = L ∨ lexL L M))
section
variable (q : List Int → Option Bool) (acc : List Int → Bool) (n : Nat) (hn : n ≤ 20) (hq : ∀ s, s < 2 ^ n → q (ow s n) = some (acc (ow s n)))
include hn hq
def lgInv (acc : List Int → Bool) (n : Nat) (best : List Int) (s : Nat) : Prop := (best = [] ∨ ∃ t, t < s ∧ best = ow t n ∧ acc best = true) ∧ ∀ t, t < s → acc (ow t n) = true → Dom best (ow t n)
omit hn hq in
theorem Dom.of {L M : List Int} (h : ¬ (L.length < M.length ∨ (M.length = L.length ∧ lexL M L))) : Dom L M := by
  by_cases c : M.length < L.length
  · exact Or.inl c
  · have e : M.length = L.length := by
      by_cases d : L.length < M.length
      · exact absurd (Or.inl d) h
      · omega
    refine Or.inr ⟨e, ?_⟩
    rcases lexL.tri e with k | k | k
    · exact absurd (Or.inr ⟨e, k⟩) h
    · exact Or.inl k
    · exact Or.inr k
omit hn hq in
theorem Dom.better {N L M : List Int} (h : Dom L M) (k : L.length < N.length ∨ (N.length = L.length ∧ lexL N L)) : Dom N M := by
  rcases h with h | ⟨e, h⟩
  · rcases k with k | ⟨f, k⟩
    · exact Or.inl (by omega)
    · exact Or.inl (by omega)
  · rcases k with k | ⟨f, k⟩
    · exact Or.inl (by omega)
    · refine Or.inr ⟨by omega, Or.inr ?_⟩
      rcases h with rfl | h
      · exact k
      · exact k.trans h
end
end Go.Proofs.Ytipdmnibjkdpcaa.Pure

namespace Go.Proofs.Ytipdmnibjkdpcaa.Pure
open Go.RowKit Go.Proofs.Ytipdmnibjkdpcaa.P Go.Proofs.YtipdmnibjkdpcaaW.PrintWords Go.Proofs.YtipdmnibjkdpcaaW.PrintLast
set_option linter.unusedVariables false
set_option linter.unusedSimpArgs false
def firstL : List Int → List (List Int) → List Int
  | b, [] => b
  | b, x :: xs => if b.length < x.length then firstL x xs else firstL b xs
theorem firstL_mem : ∀ (b : List Int) (l : List (List Int)), firstL b l = b ∨ firstL b l ∈ l
  | b, [] => .inl rfl
  | b, x :: xs => by
    rw [firstL]
    split
    · rcases firstL_mem x xs with h | h
      · exact .inr (by rw [h]; exact List.mem_cons_self ..)
      · exact .inr (List.mem_cons_of_mem _ h)
    · rcases firstL_mem b xs with h | h
      · exact .inl h
      · exact .inr (List.mem_cons_of_mem _ h)
theorem firstL_app : ∀ (b : List Int) (l m : List (List Int)), firstL b (l ++ m) = firstL (firstL b l) m
  | b, [], m => rfl
  | b, x :: xs, m => by
    rw [List.cons_append, firstL, firstL]
    split <;> exact firstL_app _ xs m
def Lay (a b : List Int) : Prop := a.length = b.length → lexL a b
section
variable (fr : List Int → Nat → Bool)
def apL : Nat → List Int → Nat → List (List Int)
  | 0, _, _ => []
  | d + 1, b, i => (if fr b i = true then (b ++ [(i : Int)]) :: apL d (b ++ [(i : Int)]) (i + 1) else []) ++ apL d b (i + 1)
def okF : List Int → List Int → Bool
  | _, [] => true
  | b, x :: xs => fr b x.toNat && okF (b ++ [x]) xs
end
end Go.Proofs.Ytipdmnibjkdpcaa.Pure

namespace Go.Proofs.Ytipdmnibjkdpcaa.Pure
open Go.RowKit Go.Proofs.Ytipdmnibjkdpcaa.P Go.Proofs.YtipdmnibjkdpcaaW.PrintWords Go.Proofs.YtipdmnibjkdpcaaW.PrintLast
set_option linter.unusedVariables false
set_option linter.unusedSimpArgs false
noncomputable def topS (s : S64) : Int := (sortedB s.f0 s.f1 s.f2).choose
theorem ins_top {s t : S64} (h : insS s t = true) : topS s < topS t := by
  obtain ⟨q, r, _, h1⟩ := (sortedB s.f0 s.f1 s.f2).choose_spec
  obtain ⟨q', r', _, h2⟩ := (sortedB t.f0 t.f1 t.f2).choose_spec
  obtain ⟨K1, h1⟩ := EvG h1
  obtain ⟨K2, h2⟩ := EvG h2
  obtain ⟨K3, h3⟩ := EvG (insS_s s t)
  have e := h3 (K1 + K2 + K3) (by omega)
  rw [spec_l02Inside.f, h1 _ (by omega), Option.bind_some, h2 _ (by omega), Option.bind_some, h] at e
  show (sortedB s.f0 s.f1 s.f2).choose < (sortedB t.f0 t.f1 t.f2).choose
  by_cases c : (sortedB s.f0 s.f1 s.f2).choose < (sortedB t.f0 t.f1 t.f2).choose
  · exact c
  · rw [if_neg c] at e
    cases e
theorem cnt_lt {α : Type} (p q : α → Bool) (y : α) (hq : q y = true) (hp : p y = false) : ∀ l : List α, (∀ x ∈ l, p x = true → q x = true) → y ∈ l → l.countP p < l.countP q
  | [], _, h => by cases h
  | x :: xs, hpq, h => by
    have hm := List.countP_mono_left (p := p) (q := q) (l := xs) (fun z hz hz' => hpq z (List.mem_cons_of_mem _ hz) hz')
    rw [List.countP_cons, List.countP_cons]
    rcases List.mem_cons.1 h with rfl | h
    · rw [hp, hq]; simp; omega
    · have ih := cnt_lt p q y hq hp xs (fun z hz => hpq z (List.mem_cons_of_mem _ hz)) h
      by_cases c : p x = true
      · rw [c, hpq x (List.mem_cons_self ..) c]; simp; omega
      · have c' : p x = false := by simpa using c
        rw [c']
        cases q x <;> simp <;> omega
noncomputable def rk (l : List S64) (s : S64) : Nat := l.countP fun t => decide (topS t ≤ topS s)
theorem rk_lt {l : List S64} {s t : S64} (ht : t ∈ l) (h : topS s < topS t) : rk l s < rk l t :=
  cnt_lt _ _ t (by simp) (by simp; omega) l (fun x _ hx => by simp at hx ⊢; omega) ht
theorem rk_pos {l : List S64} {s : S64} (h : s ∈ l) : 1 ≤ rk l s := List.countP_pos_iff.2 ⟨s, h, by simp⟩
theorem rk_le (l : List S64) (s : S64) : rk l s ≤ l.length := List.countP_le_length
noncomputable def frN (l : List S64) (b : List Int) (i : Nat) : Bool := decide (b = []) || insS (l.getD (b.getD (b.length - 1) 0).toNat z64) (l.getD i z64)
noncomputable def nsL (l : List S64) : Nat → List Int → List (List Int)
  | 0, _ => []
  | d + 1, b => (List.range l.length).flatMap fun i => if frN l b i = true then (b ++ [(i : Int)]) :: nsL l d (b ++ [(i : Int)]) else []
def InN (n : Nat) (b : List Int) : Prop := ∀ j, j < b.length → 0 ≤ b.getD j 0 ∧ b.getD j 0 < (n : Int)
theorem InN.snoc {n : Nat} {b : List Int} (h : InN n b) {i : Nat} (hi : i < n) : InN n (b ++ [(i : Int)]) := by
  intro j hj
  rw [List.length_append] at hj
  simp only [List.length_cons, List.length_nil] at hj
  by_cases c : j < b.length
  · rw [List.getD_eq_getElem?_getD, List.getElem?_append_left c, ← List.getD_eq_getElem?_getD]; exact h j c
  · obtain rfl : j = b.length := by omega
    rw [List.getD_eq_getElem?_getD, List.getElem?_append_right (Nat.le_refl _)]
    simp; omega
theorem last_snoc (b : List Int) (i : Int) : (b ++ [i]).getD ((b ++ [i]).length - 1) 0 = i := by
  rw [List.length_append, List.getD_eq_getElem?_getD]
  simp
def Deep (l : List S64) (b : List Int) (d : Nat) : Prop := (b = [] ∧ l.length + 1 ≤ d) ∨ (b ≠ [] ∧ l.length + 1 ≤ d + rk l (l.getD (b.getD (b.length - 1) 0).toNat z64))
theorem Deep.pos {l : List S64} {b : List Int} {d : Nat} (h : Deep l b d) : 1 ≤ d := by
  rcases h with ⟨_, h⟩ | ⟨h1, h⟩
  · omega
  · have := rk_le l (l.getD (b.getD (b.length - 1) 0).toNat z64)
    omega
theorem Deep.next {l : List S64} {b : List Int} {d : Nat} (h : Deep l b (d + 1)) {i : Nat} (hi : i < l.length) (hf : frN l b i = true) : Deep l (b ++ [(i : Int)]) d := by
  have hm : l.getD i z64 ∈ l := by rw [getD_eqG z64 l _ hi]; exact List.getElem_mem _
  have ht := rk_pos hm
  refine .inr ⟨by simp, ?_⟩
  rw [last_snoc, Int.toNat_natCast]
  rcases h with ⟨_, h⟩ | ⟨h1, h⟩
  · omega
  · have hins : insS (l.getD (b.getD (b.length - 1) 0).toNat z64) (l.getD i z64) = true := by
      rw [frN, decide_eq_false h1, Bool.false_or] at hf; exact hf
    have := rk_lt hm (ins_top hins)
    omega
theorem rg1N (n i : Nat) (h : i < n) : (List.range n).drop i = i :: (List.range n).drop (i + 1) := by
  rw [List.drop_eq_getElem_cons (by simpa using h), List.getElem_range]
theorem nsL_len (l : List S64) (hl : l.length ≤ 10) : ∀ d b x, x ∈ nsL l d b → x.length ≤ b.length + d
  | 0, b, x, h => by simp [nsL] at h
  | d + 1, b, x, h => by
    rw [nsL, List.mem_flatMap] at h
    obtain ⟨i, _, h⟩ := h
    split at h
    · rcases List.mem_cons.1 h with rfl | h
      · rw [List.length_append]; simp
      · have := nsL_len l hl d _ x h
        rw [List.length_append] at this
        simp at this; omega
    · cases h
noncomputable def nsR (l : List S64) (d : Nat) (b : List Int) (i : Nat) : List (List Int) := ((List.range l.length).drop i).flatMap fun i => if frN l b i = true then (b ++ [(i : Int)]) :: nsL l d (b ++ [(i : Int)]) else []
theorem nsR_end (l : List S64) (d : Nat) (b : List Int) : nsR l d b l.length = [] := by rw [nsR, List.drop_of_length_le (by simp)]; rfl
theorem nsR_step (l : List S64) (d : Nat) (b : List Int) (i : Nat) (h : i < l.length) : nsR l d b i = (if frN l b i = true then (b ++ [(i : Int)]) :: nsL l d (b ++ [(i : Int)]) else []) ++ nsR l d b (i + 1) := by
  rw [nsR, rg1N _ i h, List.flatMap_cons]; rfl
theorem nsR_zero (l : List S64) (d : Nat) (b : List Int) : nsR l d b 0 = nsL l (d + 1) b := by rw [nsR, List.drop_zero, nsL]
theorem iN (l : List S64) (hl : l.length ≤ 10) : ∀ d b best, Deep l b d → InN l.length b → b.length + d ≤ 100 → Ev (fun k => impl_LongestNest_1.f k b best l) (firstL best (b :: nsL l d b)) := by
  intro d
  induction d with
  | zero => intro b best hd hr _; exact absurd hd.pos (by omega)
  | succ d ih =>
    intro b best hd hr hlen
    have loop : ∀ m i best, l.length - i = m → i ≤ l.length → Ev (fun k => impl_LongestNest_1.l0 k b l l (l.length : Int) (i : Int) best) (firstL best (nsR l d b i)) := by
      intro m
      induction m with
      | zero =>
        intro i best hm hi
        obtain rfl : i = l.length := by omega
        rw [nsR_end]
        exact Ev.step (f := fun _ => some best) (fun k => by rw [impl_LongestNest_1.l0, if_neg (by omega)]) (Ev.now _)
      | succ m ihm =>
        intro i best hm hi
        rw [nsR_step l d b i (by omega), firstL_app]
        have br : Ev (fun k => impl_LongestNest_1.j2 k b l (i : Int) l (l.length : Int) (i : Int) (frN l b i) best) (firstL (firstL best (if frN l b i = true then (b ++ [(i : Int)]) :: nsL l d (b ++ [(i : Int)]) else [])) (nsR l d b (i + 1))) := by
          cases hf : frN l b i with
          | false =>
            rw [if_neg (by decide), firstL]
            refine Ev.step (fun k => ?_) (ihm (i + 1) best (by omega) (by omega))
            rw [impl_LongestNest_1.j2, if_neg (by decide), wN i (by omega)]
          | true =>
            rw [if_pos rfl]
            obtain ⟨K1, h1⟩ := EvG (ih (b ++ [(i : Int)]) best (hd.next (by omega) hf) (hr.snoc (by omega)) (by rw [List.length_append]; simp; omega))
            obtain ⟨K2, h2⟩ := EvG (ihm (i + 1) (firstL best ((b ++ [(i : Int)]) :: nsL l d (b ++ [(i : Int)]))) (by omega) (by omega))
            refine EvI (K1 + K2 + 1) fun k hk => ?_
            obtain ⟨n, rfl⟩ : ∃ n, k = n + 1 := ⟨k - 1, by omega⟩
            rw [impl_LongestNest_1.j2, if_pos rfl, slices_Clone_int64_int64.f, Option.bind_some, if_pos (by simp; omega), List.nil_append, Option.bind_some, Option.bind_some, if_pos (by simp; omega), h1 n (by omega), Option.bind_some, wN i (by omega), h2 n (by omega)]
        by_cases c : b = []
        · have hf : frN l b i = true := by rw [frN, decide_eq_true c, Bool.true_or]
          rw [hf] at br ⊢
          refine Ev.step (fun k => ?_) br
          rw [impl_LongestNest_1.l0, if_pos (by omega), if_pos (by omega), if_pos (by omega), if_pos (by rw [c]; rfl)]
        · have hp : 0 < b.length := List.length_pos_iff.2 c
          have hb := hr (b.length - 1) (by omega)
          have hf : frN l b i = insS (l.getD (b.getD (b.length - 1) 0).toNat z64) (l.getD i z64) := by rw [frN, decide_eq_false c, Bool.false_or]
          obtain ⟨K1, h1⟩ := EvG (insS_i (l.getD (b.getD (b.length - 1) 0).toNat z64) (l.getD i z64))
          obtain ⟨K2, h2⟩ := EvG br
          refine EvI (K1 + K2 + 1) fun k hk => ?_
          obtain ⟨n, rfl⟩ : ∃ n, k = n + 1 := ⟨k - 1, by omega⟩
          have ew : wrap64 ((b.length : Int) - 1) = ((b.length - 1 : Nat) : Int) := by rw [w64 (by omega) (by omega)]; omega
          rw [impl_LongestNest_1.l0, if_pos (by omega), if_pos (by omega), if_pos (by omega), if_neg (by omega), ew, if_pos (by omega), if_pos (by omega), rdN, if_pos (by omega), if_pos (by omega), rdB, rdB, Int.toNat_natCast, h1 n (by omega), Option.bind_some, ← hf]
          exact h2 n (by omega)
    rw [firstL, ← nsR_zero]
    by_cases c : best.length < b.length
    · rw [if_pos c]
      refine Ev.step (f := fun k => impl_LongestNest_1.j0 k b l b) (fun k => by rw [impl_LongestNest_1.f, if_pos (by omega)]) (Ev.step (fun k => ?_) (loop _ 0 b rfl (Nat.zero_le _)))
      rw [impl_LongestNest_1.j0]; rfl
    · rw [if_neg c]
      refine Ev.step (f := fun k => impl_LongestNest_1.j0 k b l best) (fun k => by rw [impl_LongestNest_1.f, if_neg (by omega)]) (Ev.step (fun k => ?_) (loop _ 0 best rfl (Nat.zero_le _)))
      rw [impl_LongestNest_1.j0]; rfl
theorem flat_len {α β : Type} (F : α → List β) (B : Nat) : ∀ r : List α, (∀ x ∈ r, (F x).length ≤ B) → (r.flatMap F).length ≤ r.length * B
  | [], _ => by simp
  | x :: xs, h => by
    have h1 := h x (List.mem_cons_self ..)
    have h2 := flat_len F B xs (fun y hy => h y (List.mem_cons_of_mem _ hy))
    rw [List.flatMap_cons, List.length_append, List.length_cons, Nat.add_mul]
    omega
theorem nsL_many (l : List S64) (hl : l.length ≤ 10) : ∀ d b, (nsL l d b).length + 1 ≤ 11 ^ d
  | 0, b => by simp [nsL]
  | d + 1, b => by
    have h := flat_len (fun i => if frN l b i = true then (b ++ [(i : Int)]) :: nsL l d (b ++ [(i : Int)]) else []) (11 ^ d) (List.range l.length) (fun i _ => by
      show (if frN l b i = true then (b ++ [(i : Int)]) :: nsL l d (b ++ [(i : Int)]) else []).length ≤ 11 ^ d
      split
      · rw [List.length_cons]; exact nsL_many l hl d _
      · simp)
    rw [List.length_range] at h
    have h2 : l.length * 11 ^ d ≤ 10 * 11 ^ d := Nat.mul_le_mul_right _ hl
    have h3 : 0 < 11 ^ d := Nat.pow_pos (by omega)
    rw [nsL, Nat.pow_succ]
    omega
theorem sN (l : List S64) (hl : l.length ≤ 10) : ∀ d b, Deep l b d → InN l.length b → b.length + d ≤ 100 → d ≤ 11 → Ev (fun k => spec_l02Nests.f k l b) (b :: nsL l d b) := by
  intro d
  induction d with
  | zero => intro b hd hr _ _; exact absurd hd.pos (by omega)
  | succ d ih =>
    intro b hd hr hlen hd11
    have loop : ∀ m i (out : List (List Int)), l.length - i = m → i ≤ l.length → out.length + (nsR l d b i).length ≤ 1000000000000 → Ev (fun k => spec_l02Nests.l0 k l b out (i : Int)) (out ++ nsR l d b i) := by
      intro m
      induction m with
      | zero =>
        intro i out hm hi ho
        obtain rfl : i = l.length := by omega
        rw [nsR_end, List.append_nil]
        exact Ev.step (f := fun _ => some out) (fun k => by rw [spec_l02Nests.l0, if_neg (by omega)]) (Ev.now _)
      | succ m ihm =>
        intro i out hm hi ho
        rw [nsR_step l d b i (by omega)] at ho ⊢
        have br : Ev (fun k => spec_l02Nests.j1 k l b out (i : Int) (frN l b i)) (out ++ ((if frN l b i = true then (b ++ [(i : Int)]) :: nsL l d (b ++ [(i : Int)]) else []) ++ nsR l d b (i + 1))) := by
          cases hf : frN l b i with
          | false =>
            rw [hf] at ho
            rw [if_neg (by decide)] at ho ⊢
            rw [List.nil_append] at ho ⊢
            refine Ev.step (fun k => ?_) (ihm (i + 1) out (by omega) (by omega) ho)
            rw [spec_l02Nests.j1, if_neg (by decide), wN i (by omega)]
          | true =>
            rw [hf] at ho
            rw [if_pos rfl] at ho ⊢
            rw [List.length_append] at ho
            obtain ⟨K1, h1⟩ := EvG (ih (b ++ [(i : Int)]) (hd.next (by omega) hf) (hr.snoc (by omega)) (by rw [List.length_append]; simp; omega) (by omega))
            obtain ⟨K2, h2⟩ := EvG (ihm (i + 1) (out ++ ((b ++ [(i : Int)]) :: nsL l d (b ++ [(i : Int)]))) (by omega) (by omega) (by rw [List.length_append]; omega))
            refine EvI (K1 + K2 + 1) fun k hk => ?_
            obtain ⟨n, rfl⟩ : ∃ n, k = n + 1 := ⟨k - 1, by omega⟩
            rw [spec_l02Nests.j1, if_pos rfl, ownF b (by omega), Option.bind_some, if_pos (by omega), h1 n (by omega), Option.bind_some, if_pos (by omega), wN i (by omega), h2 n (by omega), List.append_assoc]
        by_cases c : b = []
        · have hf : frN l b i = true := by rw [frN, decide_eq_true c, Bool.true_or]
          rw [hf] at br ⊢
          refine Ev.step (fun k => ?_) br
          rw [spec_l02Nests.l0, if_pos (by omega), if_pos (by rw [c]; rfl)]
        · have hp : 0 < b.length := List.length_pos_iff.2 c
          have hb := hr (b.length - 1) (by omega)
          have hf : frN l b i = insS (l.getD (b.getD (b.length - 1) 0).toNat z64) (l.getD i z64) := by rw [frN, decide_eq_false c, Bool.false_or]
          obtain ⟨K1, h1⟩ := EvG (insS_s (l.getD (b.getD (b.length - 1) 0).toNat z64) (l.getD i z64))
          obtain ⟨K2, h2⟩ := EvG br
          refine EvI (K1 + K2 + 1) fun k hk => ?_
          obtain ⟨n, rfl⟩ : ∃ n, k = n + 1 := ⟨k - 1, by omega⟩
          have ew : wrap64 ((b.length : Int) - 1) = ((b.length - 1 : Nat) : Int) := by rw [w64 (by omega) (by omega)]; omega
          rw [spec_l02Nests.l0, if_pos (by omega), if_neg (by omega), ew, if_pos (by omega), if_pos (by omega), rdN, if_pos (by omega), if_pos (by omega), if_pos (by omega), rdB, rdB, Int.toNat_natCast, h1 n (by omega), Option.bind_some, ← hf]
          exact h2 n (by omega)
    have hmany := nsL_many l hl (d + 1) b
    have hp := Nat.pow_le_pow_right (show 0 < 11 by omega) hd11
    rw [← nsR_zero] at hmany ⊢
    refine Ev.step (fun k => ?_) (loop _ 0 [b] rfl (Nat.zero_le _) (by rw [List.length_singleton]; omega))
    rw [spec_l02Nests.f, ownF b (by omega), Option.bind_some]
    rfl
theorem firstN (all : List (List Int)) (hn : all.length ≤ 1000000000000) : ∀ d i (best : List Int), all.length - i = d → i ≤ all.length → Ev (fun k => spec_LongestNest.l0 k all best (i : Int)) (firstL best (all.drop i), 0) := by
  intro d
  induction d with
  | zero =>
    intro i best hd hi
    obtain rfl : i = all.length := by omega
    rw [List.drop_length]
    exact Ev.step (f := fun _ => some (best, 0)) (fun k => by rw [spec_LongestNest.l0, if_neg (by omega)]) (Ev.now _)
  | succ d ih =>
    intro i best hd hi
    have e : all.drop i = all.getD i [] :: all.drop (i + 1) := by
      rw [List.drop_eq_getElem_cons (by omega), List.getD_eq_getElem?_getD, List.getElem?_eq_getElem (by omega)]; rfl
    rw [e, firstL]
    by_cases c : best.length < (all.getD i []).length
    · rw [if_pos c]
      exact Ev.step (fun k => by rw [spec_LongestNest.l0, if_pos (by omega), if_pos (by omega), rdL1, if_pos (by omega), wN i (by omega)]) (ih (i + 1) _ (by omega) (by omega))
    · rw [if_neg c]
      exact Ev.step (fun k => by rw [spec_LongestNest.l0, if_pos (by omega), if_pos (by omega), rdL1, if_neg (by omega), wN i (by omega)]) (ih (i + 1) _ (by omega) (by omega))
theorem nestBoth (l : List S64) (hb : l.length ≤ 1048576) (hw : wfS l) : ∃ r : List Int × Int, Ev (fun k => impl_LongestNest.f k l) r ∧ Ev (fun k => spec_LongestNest.f k l) r ∧ r.1.length ≤ 1000 := by
  obtain ⟨K1, cI⟩ := EvG (codeI l hb hw)
  obtain ⟨K2, cS⟩ := EvG (codeS l hb hw)
  by_cases h : boxesOk l = true
  · have h' := h
    rw [boxesOk, Bool.and_eq_true] at h
    have hlen : l.length ≤ 10 := of_decide_eq_true h.1
    have hd : Deep l [] (l.length + 1) := .inl ⟨rfl, Nat.le_refl _⟩
    have hi : InN l.length [] := fun j h => absurd h (Nat.not_lt_zero _)
    have hmany := nsL_many l hlen (l.length + 1) []
    have hp := Nat.pow_le_pow_right (show 0 < 11 by omega) (show l.length + 1 ≤ 11 by omega)
    refine ⟨(firstL [] (nsL l (l.length + 1) []), 0), ?_, ?_, ?_⟩
    · obtain ⟨K3, h3⟩ := EvG (iN l hlen (l.length + 1) [] [] hd hi (by simp; omega))
      refine EvI (K1 + K3) fun k hk => ?_
      rw [impl_LongestNest.f, cI k (by omega), if_pos h', Option.bind_some, if_pos rfl, h3 k (by omega), Option.bind_some, firstL, if_neg (by simp)]
    · obtain ⟨K3, h3⟩ := EvG (sN l hlen (l.length + 1) [] hd hi (by simp; omega) (by omega))
      obtain ⟨K4, h4⟩ := EvG (firstN ([] :: nsL l (l.length + 1) []) (by rw [List.length_cons]; omega) _ 1 [] rfl (by rw [List.length_cons]; omega))
      refine EvI (K2 + K3 + K4) fun k hk => ?_
      have h4' := h4 k (by omega)
      rw [show ((1 : Nat) : Int) = (1 : Int) from rfl] at h4'
      rw [spec_LongestNest.f, cS k (by omega), Option.bind_some, if_pos h', h3 k (by omega), Option.bind_some, if_pos (by rw [List.length_cons]; omega)]
      exact h4'
    · show (firstL [] (nsL l (l.length + 1) [])).length ≤ 1000
      rcases firstL_mem [] (nsL l (l.length + 1) []) with e | e
      · rw [e]; simp
      · have := nsL_len l hlen _ _ _ e
        simp at this; omega
  · exact ⟨([], 1), EvI K1 fun k hk => by rw [impl_LongestNest.f, cI k hk, if_neg h, Option.bind_some, if_neg (by omega)],
      EvI K2 fun k hk => by rw [spec_LongestNest.f, cS k hk, Option.bind_some, if_neg h], Nat.zero_le _⟩
end Go.Proofs.Ytipdmnibjkdpcaa.Pure

namespace Go.Proofs.Ytipdmnibjkdpcaa.Pure
open Go.RowKit Go.Proofs.Ytipdmnibjkdpcaa.P Go.Proofs.YtipdmnibjkdpcaaW.PrintWords Go.Proofs.YtipdmnibjkdpcaaW.PrintLast
set_option linter.unusedVariables false
theorem FnExactLongestNest : laws_FnExactLongestNest.Pure := by
  rintro l ⟨hl, hw⟩
  have hs := szB l 1048576 (by omega) (by omega) hl
  by_cases hb : (l.length : Int) ≤ 1048576
  · rw [if_pos hb] at hs
    obtain ⟨r, r1, r2, r3⟩ := nestBoth (l.map cvb) (by rw [List.length_map]; omega) (wf_cvb hw)
    obtain ⟨K1, r1⟩ := EvG r1
    obtain ⟨K2, r2⟩ := EvG r2
    obtain ⟨K3, hT⟩ := EvG (toBS l (by omega))
    obtain ⟨K4, hE⟩ := EvG (eqI r.1 (by omega))
    obtain ⟨K5, hB⟩ := EvG (eqB (l.map cvb) (by rw [List.length_map]; omega))
    obtain ⟨K6, hM⟩ := EvG (markB (l.map cvb) (by rw [List.length_map]; omega))
    obtain ⟨K7, hN⟩ := EvG (markI r.1 1 (by omega) (by omega))
    obtain ⟨K8, hH⟩ := EvG (heldI r.1.length 1 (by omega) (by omega))
    refine ⟨K1 + K2 + K3 + K4 + K5 + K6 + K7 + K8 + 3, ?_⟩
    have hN' := fun k hk => hN k hk
    have hH' := fun k hk => hH k hk
    rw [show (((1 : Nat) : Int)) = (1 : Int) from rfl] at hN' hH'
    rw [laws_FnExactLongestNest.f, hs, Option.bind_some, if_neg (by omega), hT _ (by omega), Option.bind_some, r2 _ (by omega), Option.bind_some, Option.bind_some, r1 _ (by omega), Option.bind_some, hE _ (by omega), Option.bind_some, if_pos rfl, bne_self_eq_false,
      laws_FnExactLongestNest.j0, if_neg (by decide), hT _ (by omega), Option.bind_some, hB _ (by omega), Option.bind_some, if_pos rfl, hM _ (by omega), Option.bind_some, if_neg (by omega), hE _ (by omega), Option.bind_some, if_pos rfl, bne_self_eq_false,
      laws_FnExactLongestNest.j1, if_neg (by decide), hN' _ (by omega), Option.bind_some, hH' _ (by omega), Option.bind_some, if_neg (by omega), if_pos rfl, hT _ (by omega), Option.bind_some, r1 _ (by omega), Option.bind_some, hE _ (by omega), Option.bind_some, if_pos rfl, bne_self_eq_false,
      laws_FnExactLongestNest.j2, if_neg (by decide), hH' _ (by omega), Option.bind_some, if_neg (by omega), if_pos rfl]
  · rw [if_neg hb] at hs
    refine ⟨0, ?_⟩
    rw [laws_FnExactLongestNest.f, hs, Option.bind_some, if_pos (by omega)]
end Go.Proofs.Ytipdmnibjkdpcaa.Pure

namespace Go.Proofs.Ytipdmnibjkdpcaa.X
open Go.ChangeShapes Go.WideShapes Go.ChangeAt Go.RowKit Go.Proofs.YtipdmnibjkdpcaaW.PrintWords Go.Deep
set_option linter.unusedVariables false
def Opens {α : Type} (P : Program) (t : TypeId) (d : Kd α) (wf : α → Prop) : Prop :=
  ∀ (H : Type) (enc : TypeId × Value → H) (W : World) (held : Bool) (fuel : Nat) (cs : List Value) (x : DataW H × List MemPlace), DataW.trod enc P W 0 (fun _ => true) held fuel t cs = some x → ∃ a, d.K W a cs ∧ wf a
theorem Opens.int {P : Program} {t : TypeId} {k : IntKind} (ht : P.underlying t = some (.int k)) : Opens P t (Kd.int k) (fun n => (Lit.int k n).wf = true) := by
  intro H enc W held fuel cs x h
  obtain ⟨n, rfl, _, hw⟩ := DataW.trod_int ht h
  exact ⟨n, rfl, hw⟩
theorem Opens.slice {α : Type} [Inhabited α] {P : Program} {t e : TypeId} {d : Kd α} {wf : α → Prop} (ht : P.underlying t = some (.slice e)) (hc : P.cellsOf e = d.sz) (h : Opens P e d wf) :
    Opens P t (Kd.slice e d) (fun l => l.length ≤ 9223372036854775807 ∧ ∀ a ∈ l, wf a) := by
  intro H enc W held fuel cs x hx
  rcases open_slice ht hx with ⟨rfl, _⟩ | ⟨ad, len, cap, m, n, D, Pl, rfl, _, hl, hm, hmm, _, hel⟩
  · exact ⟨[], ⟨none, 0, rfl, Nat.le_refl _, ⟨rfl, by simp, fun h => absurd h (Nat.lt_irrefl 0)⟩⟩, by simp, fun a ha => by cases ha⟩
  · have hmc : m = cap := by simpa using hmm
    have each : ∀ i, i < len → ∃ a : α, wf a ∧ ∃ c, c.length = d.sz ∧ d.K W a c ∧ ∀ j u, c[j]? = some u → W.cell? (ad.add (i * d.sz + j)) = some u := by
      intro i hi
      obtain ⟨cs', h1, h2⟩ := hel i (by omega)
      obtain ⟨_, hlen, hcell⟩ := World.cells?_some h1
      obtain ⟨a, hK, hw⟩ := h H enc W held n cs' _ h2
      refine ⟨a, hw, cs', by rw [hlen, hc], hK, fun j u hu => ?_⟩
      have hj : j < P.cellsOf e := by have := (List.getElem?_eq_some_iff.1 hu).1; omega
      have h3 := hcell j hj
      rw [hu, hc] at h3
      rw [← h3]
      congr 1
      unfold Addr.add
      by_cases h4 : i * d.sz = 0 <;> by_cases h5 : j = 0 <;> simp [h4, h5, Nat.add_assoc]
    obtain ⟨f, hf⟩ := choose_lt each
    have hlen : ((List.range len).map f).length = len := by simp
    refine ⟨(List.range len).map f, ⟨some ad, cap, by rw [hlen], by rw [hlen]; exact hl, ⟨rfl, by rw [hlen]; unfold maxLen at hm; omega, fun _ => ⟨ad, rfl, fun j p hp => ?_⟩⟩⟩, by rw [hlen]; unfold maxLen at hm; omega, fun a ha => ?_⟩
    · have hj : j < len := by have := (List.getElem?_eq_some_iff.1 hp).1; omega
      have hp2 : f j = p := by simpa [hj] using hp
      rw [← hp2]
      exact (hf j hj).2
    · obtain ⟨i, hi, rfl⟩ := List.mem_map.1 ha
      exact (hf i (List.mem_range.1 hi)).1
theorem Opens.pair {α β : Type} {P : Program} {t : TypeId} {a : Kd α} {b : Kd β} {wa : α → Prop} {wb : β → Prop} {f0 f1 : Field} (hs : P.underlying t = some (.struct #[f0, f1])) (o0 : f0.offset = 0) (c0 : P.cellsOf f0.type = a.sz) (o1 : f1.offset = a.sz) (c1 : P.cellsOf f1.type = b.sz) (hc : P.cellsOf t = a.sz + b.sz)
    (ha : Opens P f0.type a wa) (hb : Opens P f1.type b wb) : Opens P t (Kd.pair a b) (fun x => wa x.1 ∧ wb x.2) := by
  intro H enc W held fuel cs x hx
  obtain ⟨xs, n, _, _, hl, hxl, hf⟩ := DataW.trod_struct hs hx
  have hxl : xs.length = 2 := hxl
  have g0 := hf 0 f0 rfl
  have g1 := hf 1 f1 rfl
  rw [List.getElem?_eq_getElem (by omega)] at g0 g1
  obtain ⟨x0, k0, w0⟩ := ha H enc W held n _ _ g0
  obtain ⟨x1, k1, w1⟩ := hb H enc W held n _ _ g1
  refine ⟨(x0, x1), ⟨_, _, ?_, k0, k1⟩, w0, w1⟩
  rw [o0, o1, c0, c1, List.drop_zero]
  rw [List.take_of_length_le (l := cs.drop a.sz) (by rw [List.length_drop]; omega), List.take_append_drop]
theorem Opens.triple {α β γ : Type} {P : Program} {t : TypeId} {a : Kd α} {b : Kd β} {c : Kd γ} {wa : α → Prop} {wb : β → Prop} {wc : γ → Prop} {f0 f1 f2 : Field} (hs : P.underlying t = some (.struct #[f0, f1, f2])) (o0 : f0.offset = 0) (c0 : P.cellsOf f0.type = a.sz) (o1 : f1.offset = a.sz) (c1 : P.cellsOf f1.type = b.sz) (o2 : f2.offset = a.sz + b.sz) (c2 : P.cellsOf f2.type = c.sz) (hc : P.cellsOf t = a.sz + b.sz + c.sz)
    (ha : Opens P f0.type a wa) (hb : Opens P f1.type b wb) (hcc : Opens P f2.type c wc) : Opens P t (Kd.pair a (Kd.pair b c)) (fun x => wa x.1 ∧ wb x.2.1 ∧ wc x.2.2) := by
  intro H enc W held fuel cs x hx
  obtain ⟨xs, n, _, _, hl, hxl, hf⟩ := DataW.trod_struct hs hx
  have hxl : xs.length = 3 := hxl
  have g0 := hf 0 f0 rfl
  have g1 := hf 1 f1 rfl
  have g2 := hf 2 f2 rfl
  rw [List.getElem?_eq_getElem (by omega)] at g0 g1 g2
  obtain ⟨x0, k0, w0⟩ := ha H enc W held n _ _ g0
  obtain ⟨x1, k1, w1⟩ := hb H enc W held n _ _ g1
  obtain ⟨x2, k2, w2⟩ := hcc H enc W held n _ _ g2
  refine ⟨(x0, x1, x2), ⟨_, _, ?_, k0, ⟨_, _, rfl, k1, k2⟩⟩, w0, w1, w2⟩
  rw [o0, o1, o2, c0, c1, c2, List.drop_zero]
  rw [List.take_of_length_le (l := cs.drop (a.sz + b.sz)) (by rw [List.length_drop]; omega), ← List.drop_drop, List.take_append_drop, List.take_append_drop]
theorem Opens.iso {α β : Type} {P : Program} {t : TypeId} {d : Kd α} {wf : α → Prop} (f : β → α) (g : α → β) (hg : ∀ a, f (g a) = a) (h : Opens P t d wf) : Opens P t (Kd.iso d f) (fun b => wf (f b)) := by
  intro H enc W held fuel cs x hx
  obtain ⟨a, hK, hw⟩ := h H enc W held fuel cs x hx
  refine ⟨g a, ?_, by show wf (f (g a)); rw [hg]; exact hw⟩
  show d.K W (f (g a)) cs
  rw [hg]; exact hK
theorem Opens.agg {α : Type} {P : Program} {t : TypeId} {d : Kd α} {wf : α → Prop} {fs : Array Field} (h : Opens P t d wf) (hs : P.underlying t = some (.struct fs)) {H : Type} {enc : TypeId × Value → H} {W : World} {r : Reach} {b0 : Nat} {v : Value} {dd : DataW H} {ps : List MemPlace}
    (hv : Value.okWide P W r b0 t v) (ht : DataW.Trod enc P W 0 (fun _ => true) true t v dd ps) : ∃ (a : α) (cs : List Value), v = .agg cs.toArray ∧ d.K W a cs ∧ wf a := by
  obtain ⟨cs, rfl, _⟩ := okWide_struct hs hv
  obtain ⟨fuel, hf⟩ := ht
  obtain ⟨a, hK, hw⟩ := h H enc W true fuel _ _ hf
  exact ⟨a, _, by simp [Value.cells], hK, hw⟩
theorem Opens.arg {α : Type} {P : Program} {t e : TypeId} {d : Kd α} {wf : List α → Prop} (h : Opens P t (Kd.slice e d) wf) (ht : P.underlying t = some (.slice e)) {H : Type} {enc : TypeId × Value → H} {W : World} {r : Reach} {b0 : Nat} {v : Value} {dd : DataW H} {ps : List MemPlace}
    (hv : Value.okWide P W r b0 t v) (hT : DataW.Trod enc P W 0 (fun _ => true) true t v dd ps) : ∃ (l : List α) (A : Option Addr) (c : Nat), v = .slice A l.length c ∧ l.length ≤ c ∧ d.C W A l.length l ∧ wf l := by
  obtain ⟨a, len, cap, rfl⟩ := okWide_slice ht hv
  obtain ⟨fuel, hf⟩ := hT
  obtain ⟨l, ⟨A, c, he, hl, hC⟩, hw⟩ := h H enc W true fuel _ _ hf
  have he2 : [Value.slice a len cap] = [Value.slice A l.length c] := by simpa [Value.cells] using he
  injection he2 with he2 _
  exact ⟨l, A, c, he2, hl, hC, hw⟩
end Go.Proofs.Ytipdmnibjkdpcaa.X
