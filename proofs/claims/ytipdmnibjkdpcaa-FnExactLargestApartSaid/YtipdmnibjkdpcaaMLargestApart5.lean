/- The Go functions that the law FnExactLargestApart comes to, as plain Lean functions, the proofs that calls of them return what those tell, and the plain lemmas on them; no condition but those that each theorem states. -/
import Derived.Test.YtipdmnibjkdpcaaMLargestApart2
import Derived.Test.YtipdmnibjkdpcaaMLargestApart4
import Derived.Test.YtipdmnibjkdpcaaMLargestApart3
namespace Go.Proofs.Ytipdmnibjkdpcaa.P
open Go.RowKit Go.Proofs.YtipdmnibjkdpcaaW.PrintWords Go.Proofs.YtipdmnibjkdpcaaW.PrintLast Go.Proofs.YtipdmnibjkdpcaaW.PrintMore
attribute [local go_sem] max2_int min2_int max_two min_two max_three min_three max_four min_four
set_option linter.unusedVariables false
set_option linter.unusedSimpArgs false
def impl_Box_inside.f (k : Nat) (a0_0 : Int) (a0_1 : Int) (a0_2 : Int) (a1_0 : Int) (a1_1 : Int) (a1_2 : Int) : Option (Bool) := (impl_Box_sorted.f k a0_0 a0_1 a0_2).bind fun bt371 => ((impl_Box_sorted.f k a1_0 a1_1 a1_2).bind fun bt374 => (if bt371.1 < bt374.1 then (if bt371.2.1 < bt374.2.1 then (some (decide (bt371.2.2 < bt374.2.2))) else (some false)) else (some false)))
theorem impl_Box_inside.mono : ∀ a0 a1 a2 a3 a4 a5 k, LeO (impl_Box_inside.f k a0 a1 a2 a3 a4 a5) (impl_Box_inside.f (k + 1) a0 a1 a2 a3 a4 a5) := by
  intro a0 a1 a2 a3 a4 a5 k
  unfold impl_Box_inside.f
  repeat' first
      | (with_reducible exact impl_Box_sorted.mono _ _ _ _)
      | (with_reducible exact LeO.refl _)
      | (with_reducible exact LeO.none _)
      | (with_reducible refine LeO.ite ?_ ?_)
      | (with_reducible refine LeO.bind ?_ (fun _ => ?_))
      | exact impl_Box_sorted.mono _ _ _ _
      | exact LeO.none _
      | refine LeO.ite ?_ ?_
      | refine LeO.bind ?_ (fun _ => ?_)
def impl_Box_inside.T1 : Bool × List (List Nat × List Nat) := (true, [([], []), ([0], [0]), ([], []), ([2, 1], [2]), ([], []), ([], []), ([4, 1, 3, 0, 1, 4, 5], [1, 4]), ([5, 3, 6, 0, 1, 2, 3, 4, 5, 6], [3, 5])])
def impl_Box_inside.B1 : List Nat := [0, 1, 0, 7, 0, 0, 63, 127]
theorem impl_Box_inside.tab1 : rtab .any (opsOf Try.f42 1) = impl_Box_inside.T1 := by kernel_rfl
theorem impl_Box_inside.bits1 : waitsOk impl_Box_inside.T1.2 impl_Box_inside.B1 = true := by kernel_rfl
set_option maxHeartbeats 8000000 in
set_option maxRecDepth 100000 in
theorem impl_Box_inside.calls (k : Nat) (a0_0 : Int) (a0_1 : Int) (a0_2 : Int) (a1_0 : Int) (a1_1 : Int) (a1_2 : Int) (r : Bool) (w : World) (h : impl_Box_inside.f k a0_0 a0_1 a0_2 a1_0 a1_1 a1_2 = some r) :
    Calls Try.prog 42 #[.agg #[.int .i8 a0_0, .int .i8 a0_1, .int .i8 a0_2], .agg #[.int .i8 a1_0, .int .i8 a1_1, .int .i8 a1_2]] w fun e w' => e = .returned (.bool r) ∧ Below w.heap.size w w' := by
  have hu64 := Try.underlying64
  have HB := Aside0.mk (Below.refl w.heap.size w)
  have H : ((impl_Box_sorted.f k a0_0 a0_1 a0_2).bind fun bt371 => ((impl_Box_sorted.f k a1_0 a1_1 a1_2).bind fun bt374 => (if bt371.1 < bt374.1 then (if bt371.2.1 < bt374.2.1 then (some (decide (bt371.2.2 < bt374.2.2))) else (some false)) else (some false)))) = some r := h
  clear h
  replace H := Option.bind_eq_some_iff.mp H
  obtain ⟨⟨t371, t372, t373⟩, A30, H⟩ := H
  replace H : ((impl_Box_sorted.f k a1_0 a1_1 a1_2).bind fun bt374 => (if t371 < bt374.1 then (if t372 < bt374.2.1 then (some (decide (t373 < bt374.2.2))) else (some false)) else (some false))) = some r := H
  have A3 := Aside0.mk A30
  clear A30
  replace H := Option.bind_eq_some_iff.mp H
  obtain ⟨⟨t374, t375, t376⟩, A40, H⟩ := H
  replace H : (if t371 < t374 then (if t372 < t375 then (some (decide (t373 < t376))) else (some false)) else (some false)) = some r := H
  have A4 := Aside0.mk A40
  clear A40
  have HLATE := Aside0.mk H
  clear H
  go_enter Try.func42, Try.ntmps42
  try go_wp2_with (first | ((with_reducible refine gate_dst (N := 2) rfl ?_); refine box_event ?hg (N := 2) ?hd (cs := #[.int .i8 a0_0, .int .i8 a0_1, .int .i8 a0_2]) (t := 64) ?hr ?_; (case hd => rfl); (case hg => rfl); (case hr => first | (go_simp; done) | (go_simp; rfl)); intro gb369 hg w7 hbox hb; have n0_ := Aside0.mk (below_step (by repeat (first | (with_reducible first | exact HB.out | apply below_alloc | apply pw_below_drewN | apply below_drew1) | exact HB.out)) hb); have n1_ := Aside0.mk (hbox); have n2_ := Aside0.mk ((by rw [hg]; exact (below_size (by repeat (first | (with_reducible first | exact HB.out | apply below_alloc | apply pw_below_drewN | apply below_drew1) | exact HB.out))) : w.heap.size ≤ gb369)); have n3_ := Aside0.mk ((by rw [hg]; exact (below_size (by repeat (first | (with_reducible first | exact HB.out | apply below_alloc | apply pw_below_drewN | apply below_drew1) | exact HB.out))) : w.heap.size ≤ gb369)); clear HB; have HB := n0_; have BK369 := n1_; have GW369 := n2_; have GE369 := n3_; clear n0_ n1_ n2_ n3_; clear hb hbox hg) | ((with_reducible refine gate_dst (N := 3) rfl ?_); refine box_event ?hg (N := 3) ?hd (cs := #[.int .i8 a1_0, .int .i8 a1_1, .int .i8 a1_2]) (t := 64) ?hr ?_; (case hd => rfl); (case hg => rfl); (case hr => first | (go_simp; done) | (go_simp; rfl)); intro gb370 hg w8 hbox hb; have n0_ := Aside0.mk (blk_below (g := gb369) (o := .cells #[.int .i8 a0_0, .int .i8 a0_1, .int .i8 a0_2] 64 (0, 0)) (by (with_reducible repeat (first | refine blk_drewN ?_ _ | refine blk_drew ?_ | refine blk_alloc ?_ _)); exact BK369.out) hb); have n1_ := Aside0.mk (below_step (by repeat (first | (with_reducible first | exact HB.out | apply below_alloc | apply pw_below_drewN | apply below_drew1 | refine below_set ?_ GE369.out) | exact HB.out)) hb); have n2_ := Aside0.mk (hbox); have n3_ := Aside0.mk ((by rw [hg]; exact (below_size (by repeat (first | (with_reducible first | exact HB.out | apply below_alloc | apply pw_below_drewN | apply below_drew1 | refine below_set ?_ GE369.out) | exact HB.out))) : w.heap.size ≤ gb370)); have n4_ := Aside0.mk ((by rw [hg]; exact (below_size (by repeat (first | (with_reducible first | exact HB.out | apply below_alloc | apply pw_below_drewN | apply below_drew1 | refine below_set ?_ GE369.out) | exact HB.out))) : w.heap.size ≤ gb370)); have n5_ := Aside0.mk ((by rw [hg]; exact Nat.ne_of_lt (blk_lt (g := gb369) (o := .cells #[.int .i8 a0_0, .int .i8 a0_1, .int .i8 a0_2] 64 (0, 0)) (by (with_reducible repeat (first | refine blk_drewN ?_ _ | refine blk_drew ?_ | refine blk_alloc ?_ _)); exact BK369.out)) : gb369 ≠ gb370)); have n6_ := Aside0.mk ((by rw [hg]; exact Nat.ne_of_gt (blk_lt (g := gb369) (o := .cells #[.int .i8 a0_0, .int .i8 a0_1, .int .i8 a0_2] 64 (0, 0)) (by (with_reducible repeat (first | refine blk_drewN ?_ _ | refine blk_drew ?_ | refine blk_alloc ?_ _)); exact BK369.out)) : gb370 ≠ gb369)); clear BK369; clear HB; have BK369 := n0_; have HB := n1_; have BK370 := n2_; have GW370 := n3_; have GE370 := n4_; have NB369_370 := n5_; have NB370_369 := n6_; clear n0_ n1_ n2_ n3_ n4_ n5_ n6_; clear hb hbox hg))
  have n0_ := Aside0.mk (blk_drew BK369.out)
  have n1_ := Aside0.mk (blk_drew BK370.out)
  have n2_ := Aside0.mk (below_drew1 HB.out)
  clear BK369
  clear BK370
  clear HB
  have BK369 := n0_
  have BK370 := n1_
  have HB := n2_
  clear n0_ n1_ n2_
  refine start_ (n := 8) (S := fun w' => w'.cell? ⟨gb369, 0, none⟩ = some (.int .i8 a0_0) ∧ w'.cell? ⟨gb369, 1, none⟩ = some (.int .i8 a0_1) ∧ w'.cell? ⟨gb369, 2, none⟩ = some (.int .i8 a0_2) ∧ w'.cell? ⟨gb370, 0, none⟩ = some (.int .i8 a1_0) ∧ w'.cell? ⟨gb370, 1, none⟩ = some (.int .i8 a1_1) ∧ w'.cell? ⟨gb370, 2, none⟩ = some (.int .i8 a1_2)) (ds := []) #[false, false, false, false, false, false, false, false] (by kernel_rfl) rfl rfl ⟨(blk_cell BK369.out 0).trans rfl, (blk_cell BK369.out 1).trans rfl, (blk_cell BK369.out 2).trans rfl, (blk_cell BK370.out 0).trans rfl, (blk_cell BK370.out 1).trans rfl, (blk_cell BK370.out 2).trans rfl⟩ (fun hHeld => ?_); refine with_tabW impl_Box_inside.tab1 impl_Box_inside.bits1 (fun HT_ HW_ => ?_)
  generalize w8.drew = w9 at BK369 BK370 HB hHeld ⊢
  refine take_ (i := 0) (N := some 7) (v := ?_) (a' := ?_) #[true, false, false, false, false, false, false, false] rfl rfl (take_ofW HT_.out HW_.out (by kernel_rfl)) (fun _ _ _ h => h) (Or.inl ⟨by rfl, ?_⟩) hHeld ?_ ?_
  rotate_left
  · rintro w' ⟨s0, s1, s2, s3, s4, s5⟩
    go_simp
    with_reducible rfl
  rotate_left
  · simp only [Act.put, List.setIfInBounds_toArray, List.set_cons_zero, List.set_cons_succ, i64_w, i32_w]
    rfl
  refine take_ (i := 2) (N := some 9) (v := ?_) (a' := ?_) #[true, false, true, false, false, false, false, false] rfl rfl (take_ofW HT_.out HW_.out (by kernel_rfl)) (fun _ _ _ h => h) (Or.inl ⟨by rfl, ?_⟩) hHeld ?_ ?_
  rotate_left
  · rintro w' ⟨s0, s1, s2, s3, s4, s5⟩
    go_simp
    with_reducible rfl
  rotate_left
  · simp only [Act.put, List.setIfInBounds_toArray, List.set_cons_zero, List.set_cons_succ, i64_w, i32_w]
    rfl
  refine join_ (σ := Nat × Nat) 2 #[true, true, true, true, true, true, false, false] (fun s_ => [(8, .agg #[.int .i8 t371, .int .i8 t372, .int .i8 t373]), (10, .agg #[.int .i8 t374, .int .i8 t375, .int .i8 t376]), (5, .pointer (some ⟨s_.1, 0, none⟩)), (6, .pointer (some ⟨s_.2, 0, none⟩))]) (fun s_ w' => (w'.cell? ⟨gb369, 0, none⟩ = some (.int .i8 a0_0) ∧ w'.cell? ⟨gb369, 1, none⟩ = some (.int .i8 a0_1) ∧ w'.cell? ⟨gb369, 2, none⟩ = some (.int .i8 a0_2) ∧ w'.cell? ⟨gb370, 0, none⟩ = some (.int .i8 a1_0) ∧ w'.cell? ⟨gb370, 1, none⟩ = some (.int .i8 a1_1) ∧ w'.cell? ⟨gb370, 2, none⟩ = some (.int .i8 a1_2)) ∧ (w'.heap[gb369]? = some (.cells #[.int .i8 a0_0, .int .i8 a0_1, .int .i8 a0_2] 64 (0, 0))) ∧ (w'.heap[gb370]? = some (.cells #[.int .i8 a1_0, .int .i8 a1_1, .int .i8 a1_2] 64 (0, 0))) ∧ (w'.heap[s_.1]? = some (.cells #[.int .i8 0, .int .i8 0, .int .i8 0] 64 (0, 0))) ∧ (w'.heap[s_.2]? = some (.cells #[.int .i8 0, .int .i8 0, .int .i8 0] 64 (0, 0))) ∧ (w.heap.size ≤ s_.1) ∧ (w.heap.size ≤ s_.1) ∧ (gb369 ≠ s_.1) ∧ (s_.1 ≠ gb369) ∧ (gb370 ≠ s_.1) ∧ (s_.1 ≠ gb370) ∧ (s_.2 ≠ s_.1) ∧ (s_.1 ≠ s_.2) ∧ (w.heap.size ≤ s_.2) ∧ (w.heap.size ≤ s_.2) ∧ (gb369 ≠ s_.2) ∧ (s_.2 ≠ gb369) ∧ (gb370 ≠ s_.2) ∧ (s_.2 ≠ gb370) ∧ (Below w.heap.size w w')) ?_ ?_
  rotate_left
  · intro hJ1_3_4_5
    refine join_ (σ := Nat) 3 #[true, true, true, true, true, false, false, false] (fun s_ => [(8, .agg #[.int .i8 t371, .int .i8 t372, .int .i8 t373]), (10, .agg #[.int .i8 t374, .int .i8 t375, .int .i8 t376]), (5, .pointer (some ⟨s_, 0, none⟩))]) (fun s_ w' => (w'.cell? ⟨gb369, 0, none⟩ = some (.int .i8 a0_0) ∧ w'.cell? ⟨gb369, 1, none⟩ = some (.int .i8 a0_1) ∧ w'.cell? ⟨gb369, 2, none⟩ = some (.int .i8 a0_2) ∧ w'.cell? ⟨gb370, 0, none⟩ = some (.int .i8 a1_0) ∧ w'.cell? ⟨gb370, 1, none⟩ = some (.int .i8 a1_1) ∧ w'.cell? ⟨gb370, 2, none⟩ = some (.int .i8 a1_2)) ∧ (w'.heap[gb369]? = some (.cells #[.int .i8 a0_0, .int .i8 a0_1, .int .i8 a0_2] 64 (0, 0))) ∧ (w'.heap[gb370]? = some (.cells #[.int .i8 a1_0, .int .i8 a1_1, .int .i8 a1_2] 64 (0, 0))) ∧ (w'.heap[s_]? = some (.cells #[.int .i8 0, .int .i8 0, .int .i8 0] 64 (0, 0))) ∧ (w.heap.size ≤ s_) ∧ (w.heap.size ≤ s_) ∧ (gb369 ≠ s_) ∧ (s_ ≠ gb369) ∧ (gb370 ≠ s_) ∧ (s_ ≠ gb370) ∧ (Below w.heap.size w w')) ?_ ?_
    rotate_left
    · intro hJ1_3_4
      refine join_ (σ := Nat) 3 #[true, true, true, true, false, true, false, false] (fun s_ => [(8, .agg #[.int .i8 t371, .int .i8 t372, .int .i8 t373]), (10, .agg #[.int .i8 t374, .int .i8 t375, .int .i8 t376]), (6, .pointer (some ⟨s_, 0, none⟩))]) (fun s_ w' => (w'.cell? ⟨gb369, 0, none⟩ = some (.int .i8 a0_0) ∧ w'.cell? ⟨gb369, 1, none⟩ = some (.int .i8 a0_1) ∧ w'.cell? ⟨gb369, 2, none⟩ = some (.int .i8 a0_2) ∧ w'.cell? ⟨gb370, 0, none⟩ = some (.int .i8 a1_0) ∧ w'.cell? ⟨gb370, 1, none⟩ = some (.int .i8 a1_1) ∧ w'.cell? ⟨gb370, 2, none⟩ = some (.int .i8 a1_2)) ∧ (w'.heap[gb369]? = some (.cells #[.int .i8 a0_0, .int .i8 a0_1, .int .i8 a0_2] 64 (0, 0))) ∧ (w'.heap[gb370]? = some (.cells #[.int .i8 a1_0, .int .i8 a1_1, .int .i8 a1_2] 64 (0, 0))) ∧ (w'.heap[s_]? = some (.cells #[.int .i8 0, .int .i8 0, .int .i8 0] 64 (0, 0))) ∧ (w.heap.size ≤ s_) ∧ (w.heap.size ≤ s_) ∧ (gb369 ≠ s_) ∧ (s_ ≠ gb369) ∧ (gb370 ≠ s_) ∧ (s_ ≠ gb370) ∧ (Below w.heap.size w w')) ?_ ?_
      rotate_left
      · intro hJ1_3_5
        refine join_ (σ := Nat × Nat) 3 #[true, true, true, false, true, true, false, false] (fun s_ => [(8, .agg #[.int .i8 t371, .int .i8 t372, .int .i8 t373]), (5, .pointer (some ⟨s_.1, 0, none⟩)), (6, .pointer (some ⟨s_.2, 0, none⟩))]) (fun s_ w' => (w'.cell? ⟨gb369, 0, none⟩ = some (.int .i8 a0_0) ∧ w'.cell? ⟨gb369, 1, none⟩ = some (.int .i8 a0_1) ∧ w'.cell? ⟨gb369, 2, none⟩ = some (.int .i8 a0_2) ∧ w'.cell? ⟨gb370, 0, none⟩ = some (.int .i8 a1_0) ∧ w'.cell? ⟨gb370, 1, none⟩ = some (.int .i8 a1_1) ∧ w'.cell? ⟨gb370, 2, none⟩ = some (.int .i8 a1_2)) ∧ (w'.heap[gb369]? = some (.cells #[.int .i8 a0_0, .int .i8 a0_1, .int .i8 a0_2] 64 (0, 0))) ∧ (w'.heap[gb370]? = some (.cells #[.int .i8 a1_0, .int .i8 a1_1, .int .i8 a1_2] 64 (0, 0))) ∧ (w'.heap[s_.1]? = some (.cells #[.int .i8 0, .int .i8 0, .int .i8 0] 64 (0, 0))) ∧ (w'.heap[s_.2]? = some (.cells #[.int .i8 0, .int .i8 0, .int .i8 0] 64 (0, 0))) ∧ (w.heap.size ≤ s_.1) ∧ (w.heap.size ≤ s_.1) ∧ (gb369 ≠ s_.1) ∧ (s_.1 ≠ gb369) ∧ (gb370 ≠ s_.1) ∧ (s_.1 ≠ gb370) ∧ (s_.2 ≠ s_.1) ∧ (s_.1 ≠ s_.2) ∧ (w.heap.size ≤ s_.2) ∧ (w.heap.size ≤ s_.2) ∧ (gb369 ≠ s_.2) ∧ (s_.2 ≠ gb369) ∧ (gb370 ≠ s_.2) ∧ (s_.2 ≠ gb370) ∧ (Below w.heap.size w w')) ?_ ?_
        rotate_left
        · intro hJ1_4_5
          refine join_ (σ := Unit) 4 #[true, true, true, true, false, false, false, false] (fun s_ => [(8, .agg #[.int .i8 t371, .int .i8 t372, .int .i8 t373]), (10, .agg #[.int .i8 t374, .int .i8 t375, .int .i8 t376])]) (fun s_ w' => (w'.cell? ⟨gb369, 0, none⟩ = some (.int .i8 a0_0) ∧ w'.cell? ⟨gb369, 1, none⟩ = some (.int .i8 a0_1) ∧ w'.cell? ⟨gb369, 2, none⟩ = some (.int .i8 a0_2) ∧ w'.cell? ⟨gb370, 0, none⟩ = some (.int .i8 a1_0) ∧ w'.cell? ⟨gb370, 1, none⟩ = some (.int .i8 a1_1) ∧ w'.cell? ⟨gb370, 2, none⟩ = some (.int .i8 a1_2)) ∧ (w'.heap[gb369]? = some (.cells #[.int .i8 a0_0, .int .i8 a0_1, .int .i8 a0_2] 64 (0, 0))) ∧ (w'.heap[gb370]? = some (.cells #[.int .i8 a1_0, .int .i8 a1_1, .int .i8 a1_2] 64 (0, 0))) ∧ (Below w.heap.size w w')) ?_ ?_
          rotate_left
          · intro hJ1_3
            refine join_ (σ := Nat) 4 #[true, true, true, false, true, false, false, false] (fun s_ => [(8, .agg #[.int .i8 t371, .int .i8 t372, .int .i8 t373]), (5, .pointer (some ⟨s_, 0, none⟩))]) (fun s_ w' => (w'.cell? ⟨gb369, 0, none⟩ = some (.int .i8 a0_0) ∧ w'.cell? ⟨gb369, 1, none⟩ = some (.int .i8 a0_1) ∧ w'.cell? ⟨gb369, 2, none⟩ = some (.int .i8 a0_2) ∧ w'.cell? ⟨gb370, 0, none⟩ = some (.int .i8 a1_0) ∧ w'.cell? ⟨gb370, 1, none⟩ = some (.int .i8 a1_1) ∧ w'.cell? ⟨gb370, 2, none⟩ = some (.int .i8 a1_2)) ∧ (w'.heap[gb369]? = some (.cells #[.int .i8 a0_0, .int .i8 a0_1, .int .i8 a0_2] 64 (0, 0))) ∧ (w'.heap[gb370]? = some (.cells #[.int .i8 a1_0, .int .i8 a1_1, .int .i8 a1_2] 64 (0, 0))) ∧ (w'.heap[s_]? = some (.cells #[.int .i8 0, .int .i8 0, .int .i8 0] 64 (0, 0))) ∧ (w.heap.size ≤ s_) ∧ (w.heap.size ≤ s_) ∧ (gb369 ≠ s_) ∧ (s_ ≠ gb369) ∧ (gb370 ≠ s_) ∧ (s_ ≠ gb370) ∧ (Below w.heap.size w w')) ?_ ?_
            rotate_left
            · intro hJ1_4
              refine join_ (σ := Nat) 4 #[true, true, true, false, false, true, false, false] (fun s_ => [(8, .agg #[.int .i8 t371, .int .i8 t372, .int .i8 t373]), (6, .pointer (some ⟨s_, 0, none⟩))]) (fun s_ w' => (w'.cell? ⟨gb369, 0, none⟩ = some (.int .i8 a0_0) ∧ w'.cell? ⟨gb369, 1, none⟩ = some (.int .i8 a0_1) ∧ w'.cell? ⟨gb369, 2, none⟩ = some (.int .i8 a0_2) ∧ w'.cell? ⟨gb370, 0, none⟩ = some (.int .i8 a1_0) ∧ w'.cell? ⟨gb370, 1, none⟩ = some (.int .i8 a1_1) ∧ w'.cell? ⟨gb370, 2, none⟩ = some (.int .i8 a1_2)) ∧ (w'.heap[gb369]? = some (.cells #[.int .i8 a0_0, .int .i8 a0_1, .int .i8 a0_2] 64 (0, 0))) ∧ (w'.heap[gb370]? = some (.cells #[.int .i8 a1_0, .int .i8 a1_1, .int .i8 a1_2] 64 (0, 0))) ∧ (w'.heap[s_]? = some (.cells #[.int .i8 0, .int .i8 0, .int .i8 0] 64 (0, 0))) ∧ (w.heap.size ≤ s_) ∧ (w.heap.size ≤ s_) ∧ (gb369 ≠ s_) ∧ (s_ ≠ gb369) ∧ (gb370 ≠ s_) ∧ (s_ ≠ gb370) ∧ (Below w.heap.size w w')) ?_ ?_
              rotate_left
              · intro hJ1_5
                refine join_ (σ := Nat × Nat) 4 #[true, false, true, false, true, true, false, false] (fun s_ => [(5, .pointer (some ⟨s_.1, 0, none⟩)), (6, .pointer (some ⟨s_.2, 0, none⟩))]) (fun s_ w' => (w'.cell? ⟨gb369, 0, none⟩ = some (.int .i8 a0_0) ∧ w'.cell? ⟨gb369, 1, none⟩ = some (.int .i8 a0_1) ∧ w'.cell? ⟨gb369, 2, none⟩ = some (.int .i8 a0_2) ∧ w'.cell? ⟨gb370, 0, none⟩ = some (.int .i8 a1_0) ∧ w'.cell? ⟨gb370, 1, none⟩ = some (.int .i8 a1_1) ∧ w'.cell? ⟨gb370, 2, none⟩ = some (.int .i8 a1_2)) ∧ (w'.heap[gb369]? = some (.cells #[.int .i8 a0_0, .int .i8 a0_1, .int .i8 a0_2] 64 (0, 0))) ∧ (w'.heap[gb370]? = some (.cells #[.int .i8 a1_0, .int .i8 a1_1, .int .i8 a1_2] 64 (0, 0))) ∧ (w'.heap[s_.1]? = some (.cells #[.int .i8 0, .int .i8 0, .int .i8 0] 64 (0, 0))) ∧ (w'.heap[s_.2]? = some (.cells #[.int .i8 0, .int .i8 0, .int .i8 0] 64 (0, 0))) ∧ (w.heap.size ≤ s_.1) ∧ (w.heap.size ≤ s_.1) ∧ (gb369 ≠ s_.1) ∧ (s_.1 ≠ gb369) ∧ (gb370 ≠ s_.1) ∧ (s_.1 ≠ gb370) ∧ (s_.2 ≠ s_.1) ∧ (s_.1 ≠ s_.2) ∧ (w.heap.size ≤ s_.2) ∧ (w.heap.size ≤ s_.2) ∧ (gb369 ≠ s_.2) ∧ (s_.2 ≠ gb369) ∧ (gb370 ≠ s_.2) ∧ (s_.2 ≠ gb370) ∧ (Below w.heap.size w w')) ?_ ?_
                rotate_left
                · intro hJ4_5
                  refine join_ (σ := Unit) 5 #[true, true, true, false, false, false, false, false] (fun s_ => [(8, .agg #[.int .i8 t371, .int .i8 t372, .int .i8 t373])]) (fun s_ w' => (w'.cell? ⟨gb369, 0, none⟩ = some (.int .i8 a0_0) ∧ w'.cell? ⟨gb369, 1, none⟩ = some (.int .i8 a0_1) ∧ w'.cell? ⟨gb369, 2, none⟩ = some (.int .i8 a0_2) ∧ w'.cell? ⟨gb370, 0, none⟩ = some (.int .i8 a1_0) ∧ w'.cell? ⟨gb370, 1, none⟩ = some (.int .i8 a1_1) ∧ w'.cell? ⟨gb370, 2, none⟩ = some (.int .i8 a1_2)) ∧ (w'.heap[gb369]? = some (.cells #[.int .i8 a0_0, .int .i8 a0_1, .int .i8 a0_2] 64 (0, 0))) ∧ (w'.heap[gb370]? = some (.cells #[.int .i8 a1_0, .int .i8 a1_1, .int .i8 a1_2] 64 (0, 0))) ∧ (Below w.heap.size w w')) ?_ ?_
                  rotate_left
                  · intro hJ1
                    refine join_ (σ := Nat) 5 #[true, false, true, false, true, false, false, false] (fun s_ => [(5, .pointer (some ⟨s_, 0, none⟩))]) (fun s_ w' => (w'.cell? ⟨gb369, 0, none⟩ = some (.int .i8 a0_0) ∧ w'.cell? ⟨gb369, 1, none⟩ = some (.int .i8 a0_1) ∧ w'.cell? ⟨gb369, 2, none⟩ = some (.int .i8 a0_2) ∧ w'.cell? ⟨gb370, 0, none⟩ = some (.int .i8 a1_0) ∧ w'.cell? ⟨gb370, 1, none⟩ = some (.int .i8 a1_1) ∧ w'.cell? ⟨gb370, 2, none⟩ = some (.int .i8 a1_2)) ∧ (w'.heap[gb369]? = some (.cells #[.int .i8 a0_0, .int .i8 a0_1, .int .i8 a0_2] 64 (0, 0))) ∧ (w'.heap[gb370]? = some (.cells #[.int .i8 a1_0, .int .i8 a1_1, .int .i8 a1_2] 64 (0, 0))) ∧ (w'.heap[s_]? = some (.cells #[.int .i8 0, .int .i8 0, .int .i8 0] 64 (0, 0))) ∧ (w.heap.size ≤ s_) ∧ (w.heap.size ≤ s_) ∧ (gb369 ≠ s_) ∧ (s_ ≠ gb369) ∧ (gb370 ≠ s_) ∧ (s_ ≠ gb370) ∧ (Below w.heap.size w w')) ?_ ?_
                    rotate_left
                    · intro hJ4
                      refine join_ (σ := Nat) 5 #[true, false, true, false, false, true, false, false] (fun s_ => [(6, .pointer (some ⟨s_, 0, none⟩))]) (fun s_ w' => (w'.cell? ⟨gb369, 0, none⟩ = some (.int .i8 a0_0) ∧ w'.cell? ⟨gb369, 1, none⟩ = some (.int .i8 a0_1) ∧ w'.cell? ⟨gb369, 2, none⟩ = some (.int .i8 a0_2) ∧ w'.cell? ⟨gb370, 0, none⟩ = some (.int .i8 a1_0) ∧ w'.cell? ⟨gb370, 1, none⟩ = some (.int .i8 a1_1) ∧ w'.cell? ⟨gb370, 2, none⟩ = some (.int .i8 a1_2)) ∧ (w'.heap[gb369]? = some (.cells #[.int .i8 a0_0, .int .i8 a0_1, .int .i8 a0_2] 64 (0, 0))) ∧ (w'.heap[gb370]? = some (.cells #[.int .i8 a1_0, .int .i8 a1_1, .int .i8 a1_2] 64 (0, 0))) ∧ (w'.heap[s_]? = some (.cells #[.int .i8 0, .int .i8 0, .int .i8 0] 64 (0, 0))) ∧ (w.heap.size ≤ s_) ∧ (w.heap.size ≤ s_) ∧ (gb369 ≠ s_) ∧ (s_ ≠ gb369) ∧ (gb370 ≠ s_) ∧ (s_ ≠ gb370) ∧ (Below w.heap.size w w')) ?_ ?_
                      rotate_left
                      · intro hJ5
                        refine three_ (i := 1) (j := 4) (k := 5) (Ni := some 8) (Nj := some 5) (Nk := some 6) #[true, true, true, false, false, false, false, false] #[true, false, true, false, true, false, false, false] #[true, false, true, false, false, true, false, false] rfl rfl rfl rfl rfl rfl (three_of HT_.out (by kernel_rfl)) (by decide) (by decide) (by decide) (fun K hK => ?_) (fun K hK => ?_) (fun K hK => ?_)
                        · skip
                          refine goes_ Try.func63 (by kernel_rfl) rfl #[.agg #[.int .i8 a0_0, .int .i8 a0_1, .int .i8 a0_2]] (by rfl) rfl rfl (by (try simp only [List.map_toArray, List.map_cons, List.map_nil]); first | done | rfl | (simp only [List.length_drop, List.length_take]; rfl)) ?_
                          with_reducible refine (impl_Box_sorted.calls k a0_0 a0_1 a0_2 t371 t372 t373 _ A3.out).mono ?_
                          rintro e w10 ⟨rfl, hb⟩
                          refine ⟨_, rfl, ?_⟩
                          have n0_ := Aside0.mk (blk_below (g := gb369) (o := .cells #[.int .i8 a0_0, .int .i8 a0_1, .int .i8 a0_2] 64 (0, 0)) (by (with_reducible repeat (first | refine blk_drewN ?_ _ | refine blk_drew ?_ | refine blk_alloc ?_ _)); exact BK369.out) hb)
                          have n1_ := Aside0.mk (blk_below (g := gb370) (o := .cells #[.int .i8 a1_0, .int .i8 a1_1, .int .i8 a1_2] 64 (0, 0)) (by (with_reducible repeat (first | refine blk_drewN ?_ _ | refine blk_drew ?_ | refine blk_alloc ?_ _)); exact BK370.out) hb)
                          have n2_ := Aside0.mk (below_step (by repeat (first | (with_reducible first | exact HB.out | apply below_alloc | apply pw_below_drewN | apply below_drew1 | refine below_set ?_ GE369.out | refine below_set ?_ GE370.out) | exact HB.out)) hb)
                          clear BK369
                          clear BK370
                          clear HB
                          have BK369 := n0_
                          have BK370 := n1_
                          have HB := n2_
                          clear n0_ n1_ n2_
                          (try clear hb)
                          (try clear hb2)
                          (try clear hk)
                          (try clear hi)
                          refine hK.out _ _ ⟨(blk_cell BK369.out 0).trans rfl, (blk_cell BK369.out 1).trans rfl, (blk_cell BK369.out 2).trans rfl, (blk_cell BK370.out 0).trans rfl, (blk_cell BK370.out 1).trans rfl, (blk_cell BK370.out 2).trans rfl⟩ (fun hHeld => ?_)
                          clear hK K
                          refine norm_ (a' := ?_) ?_ ?_
                          rotate_left
                          · show Act.put _ (some 8) _ = _
                            simp only [Act.put, List.setIfInBounds_toArray, List.set_cons_zero, List.set_cons_succ, i64_w, i32_w]
                            rfl
                          exact norm_ (by first | (simp only [putAll, Act.put, List.setIfInBounds_toArray, List.set_cons_zero, List.set_cons_succ]; done) | (simp only [putAll, Act.put, List.setIfInBounds_toArray, List.set_cons_zero, List.set_cons_succ]; rfl)) (hJ1 () _ ⟨hHeld, (by (with_reducible repeat (first | refine blk_drewN ?_ _ | refine blk_drew ?_ | refine blk_alloc ?_ _)); exact BK369.out), (by (with_reducible repeat (first | refine blk_drewN ?_ _ | refine blk_drew ?_ | refine blk_alloc ?_ _)); exact BK370.out), (by repeat (first | (with_reducible first | exact HB.out | apply below_alloc | apply pw_below_drewN | apply below_drew1 | refine below_set ?_ GE369.out | refine below_set ?_ GE370.out) | exact HB.out))⟩)
                        · skip
                          refine box_step ?hg (N := 5) ?hd (cs := #[.int .i8 0, .int .i8 0, .int .i8 0]) (t := 64) ?hr ?_; (case hd => rfl); (case hg => rfl); (case hr => first | (go_simp; done) | (go_simp; rfl))
                          intro gb377 hg w10 hbox hb
                          have n0_ := Aside0.mk (blk_below (g := gb369) (o := .cells #[.int .i8 a0_0, .int .i8 a0_1, .int .i8 a0_2] 64 (0, 0)) (by (with_reducible repeat (first | refine blk_drewN ?_ _ | refine blk_drew ?_ | refine blk_alloc ?_ _)); exact BK369.out) hb)
                          have n1_ := Aside0.mk (blk_below (g := gb370) (o := .cells #[.int .i8 a1_0, .int .i8 a1_1, .int .i8 a1_2] 64 (0, 0)) (by (with_reducible repeat (first | refine blk_drewN ?_ _ | refine blk_drew ?_ | refine blk_alloc ?_ _)); exact BK370.out) hb)
                          have n2_ := Aside0.mk (below_step (by repeat (first | (with_reducible first | exact HB.out | apply below_alloc | apply pw_below_drewN | apply below_drew1 | refine below_set ?_ GE369.out | refine below_set ?_ GE370.out) | exact HB.out)) hb)
                          have n3_ := Aside0.mk (hbox)
                          have n4_ := Aside0.mk ((by rw [hg]; exact (below_size (by repeat (first | (with_reducible first | exact HB.out | apply below_alloc | apply pw_below_drewN | apply below_drew1 | refine below_set ?_ GE369.out | refine below_set ?_ GE370.out) | exact HB.out))) : w.heap.size ≤ gb377))
                          have n5_ := Aside0.mk ((by rw [hg]; exact (below_size (by repeat (first | (with_reducible first | exact HB.out | apply below_alloc | apply pw_below_drewN | apply below_drew1 | refine below_set ?_ GE369.out | refine below_set ?_ GE370.out) | exact HB.out))) : w.heap.size ≤ gb377))
                          have n6_ := Aside0.mk ((by rw [hg]; exact Nat.ne_of_lt (blk_lt (g := gb369) (o := .cells #[.int .i8 a0_0, .int .i8 a0_1, .int .i8 a0_2] 64 (0, 0)) (by (with_reducible repeat (first | refine blk_drewN ?_ _ | refine blk_drew ?_ | refine blk_alloc ?_ _)); exact BK369.out)) : gb369 ≠ gb377))
                          have n7_ := Aside0.mk ((by rw [hg]; exact Nat.ne_of_gt (blk_lt (g := gb369) (o := .cells #[.int .i8 a0_0, .int .i8 a0_1, .int .i8 a0_2] 64 (0, 0)) (by (with_reducible repeat (first | refine blk_drewN ?_ _ | refine blk_drew ?_ | refine blk_alloc ?_ _)); exact BK369.out)) : gb377 ≠ gb369))
                          have n8_ := Aside0.mk ((by rw [hg]; exact Nat.ne_of_lt (blk_lt (g := gb370) (o := .cells #[.int .i8 a1_0, .int .i8 a1_1, .int .i8 a1_2] 64 (0, 0)) (by (with_reducible repeat (first | refine blk_drewN ?_ _ | refine blk_drew ?_ | refine blk_alloc ?_ _)); exact BK370.out)) : gb370 ≠ gb377))
                          have n9_ := Aside0.mk ((by rw [hg]; exact Nat.ne_of_gt (blk_lt (g := gb370) (o := .cells #[.int .i8 a1_0, .int .i8 a1_1, .int .i8 a1_2] 64 (0, 0)) (by (with_reducible repeat (first | refine blk_drewN ?_ _ | refine blk_drew ?_ | refine blk_alloc ?_ _)); exact BK370.out)) : gb377 ≠ gb370))
                          clear BK369
                          clear BK370
                          clear HB
                          have BK369 := n0_
                          have BK370 := n1_
                          have HB := n2_
                          have BK377 := n3_
                          have GW377 := n4_
                          have GE377 := n5_
                          have NB369_377 := n6_
                          have NB377_369 := n7_
                          have NB370_377 := n8_
                          have NB377_370 := n9_
                          clear n0_ n1_ n2_ n3_ n4_ n5_ n6_ n7_ n8_ n9_
                          clear hb hbox hg
                          refine hK.out _ _ ⟨(blk_cell BK369.out 0).trans rfl, (blk_cell BK369.out 1).trans rfl, (blk_cell BK369.out 2).trans rfl, (blk_cell BK370.out 0).trans rfl, (blk_cell BK370.out 1).trans rfl, (blk_cell BK370.out 2).trans rfl⟩ (fun hHeld => ?_)
                          clear hK K
                          refine norm_ (a' := ?_) ?_ ?_
                          rotate_left
                          · show Act.put _ (some 5) _ = _
                            simp only [Act.put, List.setIfInBounds_toArray, List.set_cons_zero, List.set_cons_succ, i64_w, i32_w]
                            rfl
                          exact norm_ (by first | (simp only [putAll, Act.put, List.setIfInBounds_toArray, List.set_cons_zero, List.set_cons_succ]; done) | (simp only [putAll, Act.put, List.setIfInBounds_toArray, List.set_cons_zero, List.set_cons_succ]; rfl)) (hJ4 (gb377) _ ⟨hHeld, (by (with_reducible repeat (first | refine blk_drewN ?_ _ | refine blk_drew ?_ | refine blk_alloc ?_ _)); exact BK369.out), (by (with_reducible repeat (first | refine blk_drewN ?_ _ | refine blk_drew ?_ | refine blk_alloc ?_ _)); exact BK370.out), (by (with_reducible repeat (first | refine blk_drewN ?_ _ | refine blk_drew ?_ | refine blk_alloc ?_ _)); exact BK377.out), GW377.out, GE377.out, NB369_377.out, NB377_369.out, NB370_377.out, NB377_370.out, (by repeat (first | (with_reducible first | exact HB.out | apply below_alloc | apply pw_below_drewN | apply below_drew1 | refine below_set ?_ GE369.out | refine below_set ?_ GE370.out | refine below_set ?_ GE377.out) | exact HB.out))⟩)
                        · skip
                          refine box_step ?hg (N := 6) ?hd (cs := #[.int .i8 0, .int .i8 0, .int .i8 0]) (t := 64) ?hr ?_; (case hd => rfl); (case hg => rfl); (case hr => first | (go_simp; done) | (go_simp; rfl))
                          intro gb378 hg w10 hbox hb
                          have n0_ := Aside0.mk (blk_below (g := gb369) (o := .cells #[.int .i8 a0_0, .int .i8 a0_1, .int .i8 a0_2] 64 (0, 0)) (by (with_reducible repeat (first | refine blk_drewN ?_ _ | refine blk_drew ?_ | refine blk_alloc ?_ _)); exact BK369.out) hb)
                          have n1_ := Aside0.mk (blk_below (g := gb370) (o := .cells #[.int .i8 a1_0, .int .i8 a1_1, .int .i8 a1_2] 64 (0, 0)) (by (with_reducible repeat (first | refine blk_drewN ?_ _ | refine blk_drew ?_ | refine blk_alloc ?_ _)); exact BK370.out) hb)
                          have n2_ := Aside0.mk (below_step (by repeat (first | (with_reducible first | exact HB.out | apply below_alloc | apply pw_below_drewN | apply below_drew1 | refine below_set ?_ GE369.out | refine below_set ?_ GE370.out) | exact HB.out)) hb)
                          have n3_ := Aside0.mk (hbox)
                          have n4_ := Aside0.mk ((by rw [hg]; exact (below_size (by repeat (first | (with_reducible first | exact HB.out | apply below_alloc | apply pw_below_drewN | apply below_drew1 | refine below_set ?_ GE369.out | refine below_set ?_ GE370.out) | exact HB.out))) : w.heap.size ≤ gb378))
                          have n5_ := Aside0.mk ((by rw [hg]; exact (below_size (by repeat (first | (with_reducible first | exact HB.out | apply below_alloc | apply pw_below_drewN | apply below_drew1 | refine below_set ?_ GE369.out | refine below_set ?_ GE370.out) | exact HB.out))) : w.heap.size ≤ gb378))
                          have n6_ := Aside0.mk ((by rw [hg]; exact Nat.ne_of_lt (blk_lt (g := gb369) (o := .cells #[.int .i8 a0_0, .int .i8 a0_1, .int .i8 a0_2] 64 (0, 0)) (by (with_reducible repeat (first | refine blk_drewN ?_ _ | refine blk_drew ?_ | refine blk_alloc ?_ _)); exact BK369.out)) : gb369 ≠ gb378))
                          have n7_ := Aside0.mk ((by rw [hg]; exact Nat.ne_of_gt (blk_lt (g := gb369) (o := .cells #[.int .i8 a0_0, .int .i8 a0_1, .int .i8 a0_2] 64 (0, 0)) (by (with_reducible repeat (first | refine blk_drewN ?_ _ | refine blk_drew ?_ | refine blk_alloc ?_ _)); exact BK369.out)) : gb378 ≠ gb369))
                          have n8_ := Aside0.mk ((by rw [hg]; exact Nat.ne_of_lt (blk_lt (g := gb370) (o := .cells #[.int .i8 a1_0, .int .i8 a1_1, .int .i8 a1_2] 64 (0, 0)) (by (with_reducible repeat (first | refine blk_drewN ?_ _ | refine blk_drew ?_ | refine blk_alloc ?_ _)); exact BK370.out)) : gb370 ≠ gb378))
                          have n9_ := Aside0.mk ((by rw [hg]; exact Nat.ne_of_gt (blk_lt (g := gb370) (o := .cells #[.int .i8 a1_0, .int .i8 a1_1, .int .i8 a1_2] 64 (0, 0)) (by (with_reducible repeat (first | refine blk_drewN ?_ _ | refine blk_drew ?_ | refine blk_alloc ?_ _)); exact BK370.out)) : gb378 ≠ gb370))
                          clear BK369
                          clear BK370
                          clear HB
                          have BK369 := n0_
                          have BK370 := n1_
                          have HB := n2_
                          have BK378 := n3_
                          have GW378 := n4_
                          have GE378 := n5_
                          have NB369_378 := n6_
                          have NB378_369 := n7_
                          have NB370_378 := n8_
                          have NB378_370 := n9_
                          clear n0_ n1_ n2_ n3_ n4_ n5_ n6_ n7_ n8_ n9_
                          clear hb hbox hg
                          refine hK.out _ _ ⟨(blk_cell BK369.out 0).trans rfl, (blk_cell BK369.out 1).trans rfl, (blk_cell BK369.out 2).trans rfl, (blk_cell BK370.out 0).trans rfl, (blk_cell BK370.out 1).trans rfl, (blk_cell BK370.out 2).trans rfl⟩ (fun hHeld => ?_)
                          clear hK K
                          refine norm_ (a' := ?_) ?_ ?_
                          rotate_left
                          · show Act.put _ (some 6) _ = _
                            simp only [Act.put, List.setIfInBounds_toArray, List.set_cons_zero, List.set_cons_succ, i64_w, i32_w]
                            rfl
                          exact norm_ (by first | (simp only [putAll, Act.put, List.setIfInBounds_toArray, List.set_cons_zero, List.set_cons_succ]; done) | (simp only [putAll, Act.put, List.setIfInBounds_toArray, List.set_cons_zero, List.set_cons_succ]; rfl)) (hJ5 (gb378) _ ⟨hHeld, (by (with_reducible repeat (first | refine blk_drewN ?_ _ | refine blk_drew ?_ | refine blk_alloc ?_ _)); exact BK369.out), (by (with_reducible repeat (first | refine blk_drewN ?_ _ | refine blk_drew ?_ | refine blk_alloc ?_ _)); exact BK370.out), (by (with_reducible repeat (first | refine blk_drewN ?_ _ | refine blk_drew ?_ | refine blk_alloc ?_ _)); exact BK378.out), GW378.out, GE378.out, NB369_378.out, NB378_369.out, NB370_378.out, NB378_370.out, (by repeat (first | (with_reducible first | exact HB.out | apply below_alloc | apply pw_below_drewN | apply below_drew1 | refine below_set ?_ GE369.out | refine below_set ?_ GE370.out | refine below_set ?_ GE378.out) | exact HB.out))⟩)
                      · skip
                        rintro gb378 w11 ⟨hS_, h0_, h1_, h2_, h3_, h4_, h5_, h6_, h7_, h8_, h9_⟩
                        have n0_ : Aside0 (w11.heap[gb369]? = some (.cells #[.int .i8 a0_0, .int .i8 a0_1, .int .i8 a0_2] 64 (0, 0))) := ⟨h0_⟩
                        have n1_ : Aside0 (w11.heap[gb370]? = some (.cells #[.int .i8 a1_0, .int .i8 a1_1, .int .i8 a1_2] 64 (0, 0))) := ⟨h1_⟩
                        have n2_ : Aside0 (w11.heap[gb378]? = some (.cells #[.int .i8 0, .int .i8 0, .int .i8 0] 64 (0, 0))) := ⟨h2_⟩
                        have n3_ : Aside0 (w.heap.size ≤ gb378) := ⟨h3_⟩
                        have n4_ : Aside0 (w.heap.size ≤ gb378) := ⟨h4_⟩
                        have n5_ : Aside0 (gb369 ≠ gb378) := ⟨h5_⟩
                        have n6_ : Aside0 (gb378 ≠ gb369) := ⟨h6_⟩
                        have n7_ : Aside0 (gb370 ≠ gb378) := ⟨h7_⟩
                        have n8_ : Aside0 (gb378 ≠ gb370) := ⟨h8_⟩
                        have n9_ : Aside0 (Below w.heap.size w w11) := ⟨h9_⟩
                        clear BK369
                        clear BK370
                        clear HB
                        clear h0_ h1_ h2_ h3_ h4_ h5_ h6_ h7_ h8_ h9_
                        have BK369 := n0_
                        have BK370 := n1_
                        have BK378 := n2_
                        have GW378 := n3_
                        have GE378 := n4_
                        have NB369_378 := n5_
                        have NB378_369 := n6_
                        have NB370_378 := n7_
                        have NB378_370 := n8_
                        have HB := n9_
                        clear n0_ n1_ n2_ n3_ n4_ n5_ n6_ n7_ n8_ n9_
                        have hHeld : w11.cell? ⟨gb369, 0, none⟩ = some (.int .i8 a0_0) ∧ w11.cell? ⟨gb369, 1, none⟩ = some (.int .i8 a0_1) ∧ w11.cell? ⟨gb369, 2, none⟩ = some (.int .i8 a0_2) ∧ w11.cell? ⟨gb370, 0, none⟩ = some (.int .i8 a1_0) ∧ w11.cell? ⟨gb370, 1, none⟩ = some (.int .i8 a1_1) ∧ w11.cell? ⟨gb370, 2, none⟩ = some (.int .i8 a1_2) := hS_
                        refine norm_ (a' := ?_) ?_ ?_
                        rotate_left
                        · simp only [putAll, Act.put, List.setIfInBounds_toArray, List.set_cons_zero, List.set_cons_succ]
                          rfl
                        refine two_ (i := 1) (j := 4) (Ni := some 8) (Nj := some 5) #[true, true, true, false, false, true, false, false] #[true, false, true, false, true, true, false, false] rfl rfl rfl rfl (two_of HT_.out (by kernel_rfl)) (by decide) (by decide) (fun K hK => ?_) (fun K hK => ?_)
                        · skip
                          refine goes_ Try.func63 (by kernel_rfl) rfl #[.agg #[.int .i8 a0_0, .int .i8 a0_1, .int .i8 a0_2]] (by rfl) rfl rfl (by (try simp only [List.map_toArray, List.map_cons, List.map_nil]); first | done | rfl | (simp only [List.length_drop, List.length_take]; rfl)) ?_
                          with_reducible refine (impl_Box_sorted.calls k a0_0 a0_1 a0_2 t371 t372 t373 _ A3.out).mono ?_
                          rintro e w12 ⟨rfl, hb⟩
                          refine ⟨_, rfl, ?_⟩
                          have n0_ := Aside0.mk (blk_below (g := gb369) (o := .cells #[.int .i8 a0_0, .int .i8 a0_1, .int .i8 a0_2] 64 (0, 0)) (by (with_reducible repeat (first | refine blk_drewN ?_ _ | refine blk_drew ?_ | refine blk_alloc ?_ _)); exact BK369.out) hb)
                          have n1_ := Aside0.mk (blk_below (g := gb370) (o := .cells #[.int .i8 a1_0, .int .i8 a1_1, .int .i8 a1_2] 64 (0, 0)) (by (with_reducible repeat (first | refine blk_drewN ?_ _ | refine blk_drew ?_ | refine blk_alloc ?_ _)); exact BK370.out) hb)
                          have n2_ := Aside0.mk (blk_below (g := gb378) (o := .cells #[.int .i8 0, .int .i8 0, .int .i8 0] 64 (0, 0)) (by (with_reducible repeat (first | refine blk_drewN ?_ _ | refine blk_drew ?_ | refine blk_alloc ?_ _)); exact BK378.out) hb)
                          have n3_ := Aside0.mk (below_step (by repeat (first | (with_reducible first | exact HB.out | apply below_alloc | apply pw_below_drewN | apply below_drew1 | refine below_set ?_ GE369.out | refine below_set ?_ GE370.out | refine below_set ?_ GE378.out) | exact HB.out)) hb)
                          clear BK369
                          clear BK370
                          clear BK378
                          clear HB
                          have BK369 := n0_
                          have BK370 := n1_
                          have BK378 := n2_
                          have HB := n3_
                          clear n0_ n1_ n2_ n3_
                          (try clear hb)
                          (try clear hb2)
                          (try clear hk)
                          (try clear hi)
                          refine hK.out _ _ ⟨(blk_cell BK369.out 0).trans rfl, (blk_cell BK369.out 1).trans rfl, (blk_cell BK369.out 2).trans rfl, (blk_cell BK370.out 0).trans rfl, (blk_cell BK370.out 1).trans rfl, (blk_cell BK370.out 2).trans rfl⟩ (fun hHeld => ?_)
                          clear hK K
                          refine norm_ (a' := ?_) ?_ ?_
                          rotate_left
                          · show Act.put _ (some 8) _ = _
                            simp only [Act.put, List.setIfInBounds_toArray, List.set_cons_zero, List.set_cons_succ, i64_w, i32_w]
                            rfl
                          exact norm_ (by first | (simp only [putAll, Act.put, List.setIfInBounds_toArray, List.set_cons_zero, List.set_cons_succ]; done) | (simp only [putAll, Act.put, List.setIfInBounds_toArray, List.set_cons_zero, List.set_cons_succ]; rfl)) (hJ1_5 (gb378) _ ⟨hHeld, (by (with_reducible repeat (first | refine blk_drewN ?_ _ | refine blk_drew ?_ | refine blk_alloc ?_ _)); exact BK369.out), (by (with_reducible repeat (first | refine blk_drewN ?_ _ | refine blk_drew ?_ | refine blk_alloc ?_ _)); exact BK370.out), (by (with_reducible repeat (first | refine blk_drewN ?_ _ | refine blk_drew ?_ | refine blk_alloc ?_ _)); exact BK378.out), GW378.out, GE378.out, NB369_378.out, NB378_369.out, NB370_378.out, NB378_370.out, (by repeat (first | (with_reducible first | exact HB.out | apply below_alloc | apply pw_below_drewN | apply below_drew1 | refine below_set ?_ GE369.out | refine below_set ?_ GE370.out | refine below_set ?_ GE378.out) | exact HB.out))⟩)
                        · skip
                          refine box_step ?hg (N := 5) ?hd (cs := #[.int .i8 0, .int .i8 0, .int .i8 0]) (t := 64) ?hr ?_; (case hd => rfl); (case hg => rfl); (case hr => first | (go_simp; done) | (go_simp; rfl))
                          intro gb377 hg w12 hbox hb
                          have n0_ := Aside0.mk (blk_below (g := gb369) (o := .cells #[.int .i8 a0_0, .int .i8 a0_1, .int .i8 a0_2] 64 (0, 0)) (by (with_reducible repeat (first | refine blk_drewN ?_ _ | refine blk_drew ?_ | refine blk_alloc ?_ _)); exact BK369.out) hb)
                          have n1_ := Aside0.mk (blk_below (g := gb370) (o := .cells #[.int .i8 a1_0, .int .i8 a1_1, .int .i8 a1_2] 64 (0, 0)) (by (with_reducible repeat (first | refine blk_drewN ?_ _ | refine blk_drew ?_ | refine blk_alloc ?_ _)); exact BK370.out) hb)
                          have n2_ := Aside0.mk (blk_below (g := gb378) (o := .cells #[.int .i8 0, .int .i8 0, .int .i8 0] 64 (0, 0)) (by (with_reducible repeat (first | refine blk_drewN ?_ _ | refine blk_drew ?_ | refine blk_alloc ?_ _)); exact BK378.out) hb)
                          have n3_ := Aside0.mk (below_step (by repeat (first | (with_reducible first | exact HB.out | apply below_alloc | apply pw_below_drewN | apply below_drew1 | refine below_set ?_ GE369.out | refine below_set ?_ GE370.out | refine below_set ?_ GE378.out) | exact HB.out)) hb)
                          have n4_ := Aside0.mk (hbox)
                          have n5_ := Aside0.mk ((by rw [hg]; exact (below_size (by repeat (first | (with_reducible first | exact HB.out | apply below_alloc | apply pw_below_drewN | apply below_drew1 | refine below_set ?_ GE369.out | refine below_set ?_ GE370.out | refine below_set ?_ GE378.out) | exact HB.out))) : w.heap.size ≤ gb377))
                          have n6_ := Aside0.mk ((by rw [hg]; exact (below_size (by repeat (first | (with_reducible first | exact HB.out | apply below_alloc | apply pw_below_drewN | apply below_drew1 | refine below_set ?_ GE369.out | refine below_set ?_ GE370.out | refine below_set ?_ GE378.out) | exact HB.out))) : w.heap.size ≤ gb377))
                          have n7_ := Aside0.mk ((by rw [hg]; exact Nat.ne_of_lt (blk_lt (g := gb369) (o := .cells #[.int .i8 a0_0, .int .i8 a0_1, .int .i8 a0_2] 64 (0, 0)) (by (with_reducible repeat (first | refine blk_drewN ?_ _ | refine blk_drew ?_ | refine blk_alloc ?_ _)); exact BK369.out)) : gb369 ≠ gb377))
                          have n8_ := Aside0.mk ((by rw [hg]; exact Nat.ne_of_gt (blk_lt (g := gb369) (o := .cells #[.int .i8 a0_0, .int .i8 a0_1, .int .i8 a0_2] 64 (0, 0)) (by (with_reducible repeat (first | refine blk_drewN ?_ _ | refine blk_drew ?_ | refine blk_alloc ?_ _)); exact BK369.out)) : gb377 ≠ gb369))
                          have n9_ := Aside0.mk ((by rw [hg]; exact Nat.ne_of_lt (blk_lt (g := gb370) (o := .cells #[.int .i8 a1_0, .int .i8 a1_1, .int .i8 a1_2] 64 (0, 0)) (by (with_reducible repeat (first | refine blk_drewN ?_ _ | refine blk_drew ?_ | refine blk_alloc ?_ _)); exact BK370.out)) : gb370 ≠ gb377))
                          have n10_ := Aside0.mk ((by rw [hg]; exact Nat.ne_of_gt (blk_lt (g := gb370) (o := .cells #[.int .i8 a1_0, .int .i8 a1_1, .int .i8 a1_2] 64 (0, 0)) (by (with_reducible repeat (first | refine blk_drewN ?_ _ | refine blk_drew ?_ | refine blk_alloc ?_ _)); exact BK370.out)) : gb377 ≠ gb370))
                          have n11_ := Aside0.mk ((by rw [hg]; exact Nat.ne_of_lt (blk_lt (g := gb378) (o := .cells #[.int .i8 0, .int .i8 0, .int .i8 0] 64 (0, 0)) (by (with_reducible repeat (first | refine blk_drewN ?_ _ | refine blk_drew ?_ | refine blk_alloc ?_ _)); exact BK378.out)) : gb378 ≠ gb377))
                          have n12_ := Aside0.mk ((by rw [hg]; exact Nat.ne_of_gt (blk_lt (g := gb378) (o := .cells #[.int .i8 0, .int .i8 0, .int .i8 0] 64 (0, 0)) (by (with_reducible repeat (first | refine blk_drewN ?_ _ | refine blk_drew ?_ | refine blk_alloc ?_ _)); exact BK378.out)) : gb377 ≠ gb378))
                          clear BK369
                          clear BK370
                          clear BK378
                          clear HB
                          have BK369 := n0_
                          have BK370 := n1_
                          have BK378 := n2_
                          have HB := n3_
                          have BK377 := n4_
                          have GW377 := n5_
                          have GE377 := n6_
                          have NB369_377 := n7_
                          have NB377_369 := n8_
                          have NB370_377 := n9_
                          have NB377_370 := n10_
                          have NB378_377 := n11_
                          have NB377_378 := n12_
                          clear n0_ n1_ n2_ n3_ n4_ n5_ n6_ n7_ n8_ n9_ n10_ n11_ n12_
                          clear hb hbox hg
                          refine hK.out _ _ ⟨(blk_cell BK369.out 0).trans rfl, (blk_cell BK369.out 1).trans rfl, (blk_cell BK369.out 2).trans rfl, (blk_cell BK370.out 0).trans rfl, (blk_cell BK370.out 1).trans rfl, (blk_cell BK370.out 2).trans rfl⟩ (fun hHeld => ?_)
                          clear hK K
                          refine norm_ (a' := ?_) ?_ ?_
                          rotate_left
                          · show Act.put _ (some 5) _ = _
                            simp only [Act.put, List.setIfInBounds_toArray, List.set_cons_zero, List.set_cons_succ, i64_w, i32_w]
                            rfl
                          exact norm_ (by first | (simp only [putAll, Act.put, List.setIfInBounds_toArray, List.set_cons_zero, List.set_cons_succ]; done) | (simp only [putAll, Act.put, List.setIfInBounds_toArray, List.set_cons_zero, List.set_cons_succ]; rfl)) (hJ4_5 (gb377, gb378) _ ⟨hHeld, (by (with_reducible repeat (first | refine blk_drewN ?_ _ | refine blk_drew ?_ | refine blk_alloc ?_ _)); exact BK369.out), (by (with_reducible repeat (first | refine blk_drewN ?_ _ | refine blk_drew ?_ | refine blk_alloc ?_ _)); exact BK370.out), (by (with_reducible repeat (first | refine blk_drewN ?_ _ | refine blk_drew ?_ | refine blk_alloc ?_ _)); exact BK377.out), (by (with_reducible repeat (first | refine blk_drewN ?_ _ | refine blk_drew ?_ | refine blk_alloc ?_ _)); exact BK378.out), GW377.out, GE377.out, NB369_377.out, NB377_369.out, NB370_377.out, NB377_370.out, NB378_377.out, NB377_378.out, GW378.out, GE378.out, NB369_378.out, NB378_369.out, NB370_378.out, NB378_370.out, (by repeat (first | (with_reducible first | exact HB.out | apply below_alloc | apply pw_below_drewN | apply below_drew1 | refine below_set ?_ GE369.out | refine below_set ?_ GE370.out | refine below_set ?_ GE378.out | refine below_set ?_ GE377.out) | exact HB.out))⟩)
                    · skip
                      rintro gb377 w11 ⟨hS_, h0_, h1_, h2_, h3_, h4_, h5_, h6_, h7_, h8_, h9_⟩
                      have n0_ : Aside0 (w11.heap[gb369]? = some (.cells #[.int .i8 a0_0, .int .i8 a0_1, .int .i8 a0_2] 64 (0, 0))) := ⟨h0_⟩
                      have n1_ : Aside0 (w11.heap[gb370]? = some (.cells #[.int .i8 a1_0, .int .i8 a1_1, .int .i8 a1_2] 64 (0, 0))) := ⟨h1_⟩
                      have n2_ : Aside0 (w11.heap[gb377]? = some (.cells #[.int .i8 0, .int .i8 0, .int .i8 0] 64 (0, 0))) := ⟨h2_⟩
                      have n3_ : Aside0 (w.heap.size ≤ gb377) := ⟨h3_⟩
                      have n4_ : Aside0 (w.heap.size ≤ gb377) := ⟨h4_⟩
                      have n5_ : Aside0 (gb369 ≠ gb377) := ⟨h5_⟩
                      have n6_ : Aside0 (gb377 ≠ gb369) := ⟨h6_⟩
                      have n7_ : Aside0 (gb370 ≠ gb377) := ⟨h7_⟩
                      have n8_ : Aside0 (gb377 ≠ gb370) := ⟨h8_⟩
                      have n9_ : Aside0 (Below w.heap.size w w11) := ⟨h9_⟩
                      clear BK369
                      clear BK370
                      clear HB
                      clear h0_ h1_ h2_ h3_ h4_ h5_ h6_ h7_ h8_ h9_
                      have BK369 := n0_
                      have BK370 := n1_
                      have BK377 := n2_
                      have GW377 := n3_
                      have GE377 := n4_
                      have NB369_377 := n5_
                      have NB377_369 := n6_
                      have NB370_377 := n7_
                      have NB377_370 := n8_
                      have HB := n9_
                      clear n0_ n1_ n2_ n3_ n4_ n5_ n6_ n7_ n8_ n9_
                      have hHeld : w11.cell? ⟨gb369, 0, none⟩ = some (.int .i8 a0_0) ∧ w11.cell? ⟨gb369, 1, none⟩ = some (.int .i8 a0_1) ∧ w11.cell? ⟨gb369, 2, none⟩ = some (.int .i8 a0_2) ∧ w11.cell? ⟨gb370, 0, none⟩ = some (.int .i8 a1_0) ∧ w11.cell? ⟨gb370, 1, none⟩ = some (.int .i8 a1_1) ∧ w11.cell? ⟨gb370, 2, none⟩ = some (.int .i8 a1_2) := hS_
                      refine norm_ (a' := ?_) ?_ ?_
                      rotate_left
                      · simp only [putAll, Act.put, List.setIfInBounds_toArray, List.set_cons_zero, List.set_cons_succ]
                        rfl
                      refine two_ (i := 1) (j := 5) (Ni := some 8) (Nj := some 6) #[true, true, true, false, true, false, false, false] #[true, false, true, false, true, true, false, false] rfl rfl rfl rfl (two_of HT_.out (by kernel_rfl)) (by decide) (by decide) (fun K hK => ?_) (fun K hK => ?_)
                      · skip
                        refine goes_ Try.func63 (by kernel_rfl) rfl #[.agg #[.int .i8 a0_0, .int .i8 a0_1, .int .i8 a0_2]] (by rfl) rfl rfl (by (try simp only [List.map_toArray, List.map_cons, List.map_nil]); first | done | rfl | (simp only [List.length_drop, List.length_take]; rfl)) ?_
                        with_reducible refine (impl_Box_sorted.calls k a0_0 a0_1 a0_2 t371 t372 t373 _ A3.out).mono ?_
                        rintro e w12 ⟨rfl, hb⟩
                        refine ⟨_, rfl, ?_⟩
                        have n0_ := Aside0.mk (blk_below (g := gb369) (o := .cells #[.int .i8 a0_0, .int .i8 a0_1, .int .i8 a0_2] 64 (0, 0)) (by (with_reducible repeat (first | refine blk_drewN ?_ _ | refine blk_drew ?_ | refine blk_alloc ?_ _)); exact BK369.out) hb)
                        have n1_ := Aside0.mk (blk_below (g := gb370) (o := .cells #[.int .i8 a1_0, .int .i8 a1_1, .int .i8 a1_2] 64 (0, 0)) (by (with_reducible repeat (first | refine blk_drewN ?_ _ | refine blk_drew ?_ | refine blk_alloc ?_ _)); exact BK370.out) hb)
                        have n2_ := Aside0.mk (blk_below (g := gb377) (o := .cells #[.int .i8 0, .int .i8 0, .int .i8 0] 64 (0, 0)) (by (with_reducible repeat (first | refine blk_drewN ?_ _ | refine blk_drew ?_ | refine blk_alloc ?_ _)); exact BK377.out) hb)
                        have n3_ := Aside0.mk (below_step (by repeat (first | (with_reducible first | exact HB.out | apply below_alloc | apply pw_below_drewN | apply below_drew1 | refine below_set ?_ GE369.out | refine below_set ?_ GE370.out | refine below_set ?_ GE377.out) | exact HB.out)) hb)
                        clear BK369
                        clear BK370
                        clear BK377
                        clear HB
                        have BK369 := n0_
                        have BK370 := n1_
                        have BK377 := n2_
                        have HB := n3_
                        clear n0_ n1_ n2_ n3_
                        (try clear hb)
                        (try clear hb2)
                        (try clear hk)
                        (try clear hi)
                        refine hK.out _ _ ⟨(blk_cell BK369.out 0).trans rfl, (blk_cell BK369.out 1).trans rfl, (blk_cell BK369.out 2).trans rfl, (blk_cell BK370.out 0).trans rfl, (blk_cell BK370.out 1).trans rfl, (blk_cell BK370.out 2).trans rfl⟩ (fun hHeld => ?_)
                        clear hK K
                        refine norm_ (a' := ?_) ?_ ?_
                        rotate_left
                        · show Act.put _ (some 8) _ = _
                          simp only [Act.put, List.setIfInBounds_toArray, List.set_cons_zero, List.set_cons_succ, i64_w, i32_w]
                          rfl
                        exact norm_ (by first | (simp only [putAll, Act.put, List.setIfInBounds_toArray, List.set_cons_zero, List.set_cons_succ]; done) | (simp only [putAll, Act.put, List.setIfInBounds_toArray, List.set_cons_zero, List.set_cons_succ]; rfl)) (hJ1_4 (gb377) _ ⟨hHeld, (by (with_reducible repeat (first | refine blk_drewN ?_ _ | refine blk_drew ?_ | refine blk_alloc ?_ _)); exact BK369.out), (by (with_reducible repeat (first | refine blk_drewN ?_ _ | refine blk_drew ?_ | refine blk_alloc ?_ _)); exact BK370.out), (by (with_reducible repeat (first | refine blk_drewN ?_ _ | refine blk_drew ?_ | refine blk_alloc ?_ _)); exact BK377.out), GW377.out, GE377.out, NB369_377.out, NB377_369.out, NB370_377.out, NB377_370.out, (by repeat (first | (with_reducible first | exact HB.out | apply below_alloc | apply pw_below_drewN | apply below_drew1 | refine below_set ?_ GE369.out | refine below_set ?_ GE370.out | refine below_set ?_ GE377.out) | exact HB.out))⟩)
                      · skip
                        refine box_step ?hg (N := 6) ?hd (cs := #[.int .i8 0, .int .i8 0, .int .i8 0]) (t := 64) ?hr ?_; (case hd => rfl); (case hg => rfl); (case hr => first | (go_simp; done) | (go_simp; rfl))
                        intro gb378 hg w12 hbox hb
                        have n0_ := Aside0.mk (blk_below (g := gb369) (o := .cells #[.int .i8 a0_0, .int .i8 a0_1, .int .i8 a0_2] 64 (0, 0)) (by (with_reducible repeat (first | refine blk_drewN ?_ _ | refine blk_drew ?_ | refine blk_alloc ?_ _)); exact BK369.out) hb)
                        have n1_ := Aside0.mk (blk_below (g := gb370) (o := .cells #[.int .i8 a1_0, .int .i8 a1_1, .int .i8 a1_2] 64 (0, 0)) (by (with_reducible repeat (first | refine blk_drewN ?_ _ | refine blk_drew ?_ | refine blk_alloc ?_ _)); exact BK370.out) hb)
                        have n2_ := Aside0.mk (blk_below (g := gb377) (o := .cells #[.int .i8 0, .int .i8 0, .int .i8 0] 64 (0, 0)) (by (with_reducible repeat (first | refine blk_drewN ?_ _ | refine blk_drew ?_ | refine blk_alloc ?_ _)); exact BK377.out) hb)
                        have n3_ := Aside0.mk (below_step (by repeat (first | (with_reducible first | exact HB.out | apply below_alloc | apply pw_below_drewN | apply below_drew1 | refine below_set ?_ GE369.out | refine below_set ?_ GE370.out | refine below_set ?_ GE377.out) | exact HB.out)) hb)
                        have n4_ := Aside0.mk (hbox)
                        have n5_ := Aside0.mk ((by rw [hg]; exact (below_size (by repeat (first | (with_reducible first | exact HB.out | apply below_alloc | apply pw_below_drewN | apply below_drew1 | refine below_set ?_ GE369.out | refine below_set ?_ GE370.out | refine below_set ?_ GE377.out) | exact HB.out))) : w.heap.size ≤ gb378))
                        have n6_ := Aside0.mk ((by rw [hg]; exact (below_size (by repeat (first | (with_reducible first | exact HB.out | apply below_alloc | apply pw_below_drewN | apply below_drew1 | refine below_set ?_ GE369.out | refine below_set ?_ GE370.out | refine below_set ?_ GE377.out) | exact HB.out))) : w.heap.size ≤ gb378))
                        have n7_ := Aside0.mk ((by rw [hg]; exact Nat.ne_of_lt (blk_lt (g := gb369) (o := .cells #[.int .i8 a0_0, .int .i8 a0_1, .int .i8 a0_2] 64 (0, 0)) (by (with_reducible repeat (first | refine blk_drewN ?_ _ | refine blk_drew ?_ | refine blk_alloc ?_ _)); exact BK369.out)) : gb369 ≠ gb378))
                        have n8_ := Aside0.mk ((by rw [hg]; exact Nat.ne_of_gt (blk_lt (g := gb369) (o := .cells #[.int .i8 a0_0, .int .i8 a0_1, .int .i8 a0_2] 64 (0, 0)) (by (with_reducible repeat (first | refine blk_drewN ?_ _ | refine blk_drew ?_ | refine blk_alloc ?_ _)); exact BK369.out)) : gb378 ≠ gb369))
                        have n9_ := Aside0.mk ((by rw [hg]; exact Nat.ne_of_lt (blk_lt (g := gb370) (o := .cells #[.int .i8 a1_0, .int .i8 a1_1, .int .i8 a1_2] 64 (0, 0)) (by (with_reducible repeat (first | refine blk_drewN ?_ _ | refine blk_drew ?_ | refine blk_alloc ?_ _)); exact BK370.out)) : gb370 ≠ gb378))
                        have n10_ := Aside0.mk ((by rw [hg]; exact Nat.ne_of_gt (blk_lt (g := gb370) (o := .cells #[.int .i8 a1_0, .int .i8 a1_1, .int .i8 a1_2] 64 (0, 0)) (by (with_reducible repeat (first | refine blk_drewN ?_ _ | refine blk_drew ?_ | refine blk_alloc ?_ _)); exact BK370.out)) : gb378 ≠ gb370))
                        have n11_ := Aside0.mk ((by rw [hg]; exact Nat.ne_of_lt (blk_lt (g := gb377) (o := .cells #[.int .i8 0, .int .i8 0, .int .i8 0] 64 (0, 0)) (by (with_reducible repeat (first | refine blk_drewN ?_ _ | refine blk_drew ?_ | refine blk_alloc ?_ _)); exact BK377.out)) : gb377 ≠ gb378))
                        have n12_ := Aside0.mk ((by rw [hg]; exact Nat.ne_of_gt (blk_lt (g := gb377) (o := .cells #[.int .i8 0, .int .i8 0, .int .i8 0] 64 (0, 0)) (by (with_reducible repeat (first | refine blk_drewN ?_ _ | refine blk_drew ?_ | refine blk_alloc ?_ _)); exact BK377.out)) : gb378 ≠ gb377))
                        clear BK369
                        clear BK370
                        clear BK377
                        clear HB
                        have BK369 := n0_
                        have BK370 := n1_
                        have BK377 := n2_
                        have HB := n3_
                        have BK378 := n4_
                        have GW378 := n5_
                        have GE378 := n6_
                        have NB369_378 := n7_
                        have NB378_369 := n8_
                        have NB370_378 := n9_
                        have NB378_370 := n10_
                        have NB377_378 := n11_
                        have NB378_377 := n12_
                        clear n0_ n1_ n2_ n3_ n4_ n5_ n6_ n7_ n8_ n9_ n10_ n11_ n12_
                        clear hb hbox hg
                        refine hK.out _ _ ⟨(blk_cell BK369.out 0).trans rfl, (blk_cell BK369.out 1).trans rfl, (blk_cell BK369.out 2).trans rfl, (blk_cell BK370.out 0).trans rfl, (blk_cell BK370.out 1).trans rfl, (blk_cell BK370.out 2).trans rfl⟩ (fun hHeld => ?_)
                        clear hK K
                        refine norm_ (a' := ?_) ?_ ?_
                        rotate_left
                        · show Act.put _ (some 6) _ = _
                          simp only [Act.put, List.setIfInBounds_toArray, List.set_cons_zero, List.set_cons_succ, i64_w, i32_w]
                          rfl
                        exact norm_ (by first | (simp only [putAll, Act.put, List.setIfInBounds_toArray, List.set_cons_zero, List.set_cons_succ]; done) | (simp only [putAll, Act.put, List.setIfInBounds_toArray, List.set_cons_zero, List.set_cons_succ]; rfl)) (hJ4_5 (gb377, gb378) _ ⟨hHeld, (by (with_reducible repeat (first | refine blk_drewN ?_ _ | refine blk_drew ?_ | refine blk_alloc ?_ _)); exact BK369.out), (by (with_reducible repeat (first | refine blk_drewN ?_ _ | refine blk_drew ?_ | refine blk_alloc ?_ _)); exact BK370.out), (by (with_reducible repeat (first | refine blk_drewN ?_ _ | refine blk_drew ?_ | refine blk_alloc ?_ _)); exact BK377.out), (by (with_reducible repeat (first | refine blk_drewN ?_ _ | refine blk_drew ?_ | refine blk_alloc ?_ _)); exact BK378.out), GW377.out, GE377.out, NB369_377.out, NB377_369.out, NB370_377.out, NB377_370.out, NB378_377.out, NB377_378.out, GW378.out, GE378.out, NB369_378.out, NB378_369.out, NB370_378.out, NB378_370.out, (by repeat (first | (with_reducible first | exact HB.out | apply below_alloc | apply pw_below_drewN | apply below_drew1 | refine below_set ?_ GE369.out | refine below_set ?_ GE370.out | refine below_set ?_ GE377.out | refine below_set ?_ GE378.out) | exact HB.out))⟩)
                  · skip
                    rintro _ w11 ⟨hS_, h0_, h1_, h2_⟩
                    have n0_ : Aside0 (w11.heap[gb369]? = some (.cells #[.int .i8 a0_0, .int .i8 a0_1, .int .i8 a0_2] 64 (0, 0))) := ⟨h0_⟩
                    have n1_ : Aside0 (w11.heap[gb370]? = some (.cells #[.int .i8 a1_0, .int .i8 a1_1, .int .i8 a1_2] 64 (0, 0))) := ⟨h1_⟩
                    have n2_ : Aside0 (Below w.heap.size w w11) := ⟨h2_⟩
                    clear BK369
                    clear BK370
                    clear HB
                    clear h0_ h1_ h2_
                    have BK369 := n0_
                    have BK370 := n1_
                    have HB := n2_
                    clear n0_ n1_ n2_
                    have hHeld : w11.cell? ⟨gb369, 0, none⟩ = some (.int .i8 a0_0) ∧ w11.cell? ⟨gb369, 1, none⟩ = some (.int .i8 a0_1) ∧ w11.cell? ⟨gb369, 2, none⟩ = some (.int .i8 a0_2) ∧ w11.cell? ⟨gb370, 0, none⟩ = some (.int .i8 a1_0) ∧ w11.cell? ⟨gb370, 1, none⟩ = some (.int .i8 a1_1) ∧ w11.cell? ⟨gb370, 2, none⟩ = some (.int .i8 a1_2) := hS_
                    refine norm_ (a' := ?_) ?_ ?_
                    rotate_left
                    · simp only [putAll, Act.put, List.setIfInBounds_toArray, List.set_cons_zero, List.set_cons_succ]
                      rfl
                    refine three_ (i := 3) (j := 4) (k := 5) (Ni := some 10) (Nj := some 5) (Nk := some 6) #[true, true, true, true, false, false, false, false] #[true, true, true, false, true, false, false, false] #[true, true, true, false, false, true, false, false] rfl rfl rfl rfl rfl rfl (three_of HT_.out (by kernel_rfl)) (by decide) (by decide) (by decide) (fun K hK => ?_) (fun K hK => ?_) (fun K hK => ?_)
                    · skip
                      refine goes_ Try.func63 (by kernel_rfl) rfl #[.agg #[.int .i8 a1_0, .int .i8 a1_1, .int .i8 a1_2]] (by rfl) rfl rfl (by (try simp only [List.map_toArray, List.map_cons, List.map_nil]); first | done | rfl | (simp only [List.length_drop, List.length_take]; rfl)) ?_
                      with_reducible refine (impl_Box_sorted.calls k a1_0 a1_1 a1_2 t374 t375 t376 _ A4.out).mono ?_
                      rintro e w12 ⟨rfl, hb⟩
                      refine ⟨_, rfl, ?_⟩
                      have n0_ := Aside0.mk (blk_below (g := gb369) (o := .cells #[.int .i8 a0_0, .int .i8 a0_1, .int .i8 a0_2] 64 (0, 0)) (by (with_reducible repeat (first | refine blk_drewN ?_ _ | refine blk_drew ?_ | refine blk_alloc ?_ _)); exact BK369.out) hb)
                      have n1_ := Aside0.mk (blk_below (g := gb370) (o := .cells #[.int .i8 a1_0, .int .i8 a1_1, .int .i8 a1_2] 64 (0, 0)) (by (with_reducible repeat (first | refine blk_drewN ?_ _ | refine blk_drew ?_ | refine blk_alloc ?_ _)); exact BK370.out) hb)
                      have n2_ := Aside0.mk (below_step (by repeat (first | (with_reducible first | exact HB.out | apply below_alloc | apply pw_below_drewN | apply below_drew1 | refine below_set ?_ GE369.out | refine below_set ?_ GE370.out) | exact HB.out)) hb)
                      clear BK369
                      clear BK370
                      clear HB
                      have BK369 := n0_
                      have BK370 := n1_
                      have HB := n2_
                      clear n0_ n1_ n2_
                      (try clear hb)
                      (try clear hb2)
                      (try clear hk)
                      (try clear hi)
                      refine hK.out _ _ ⟨(blk_cell BK369.out 0).trans rfl, (blk_cell BK369.out 1).trans rfl, (blk_cell BK369.out 2).trans rfl, (blk_cell BK370.out 0).trans rfl, (blk_cell BK370.out 1).trans rfl, (blk_cell BK370.out 2).trans rfl⟩ (fun hHeld => ?_)
                      clear hK K
                      refine norm_ (a' := ?_) ?_ ?_
                      rotate_left
                      · show Act.put _ (some 10) _ = _
                        simp only [Act.put, List.setIfInBounds_toArray, List.set_cons_zero, List.set_cons_succ, i64_w, i32_w]
                        rfl
                      exact norm_ (by first | (simp only [putAll, Act.put, List.setIfInBounds_toArray, List.set_cons_zero, List.set_cons_succ]; done) | (simp only [putAll, Act.put, List.setIfInBounds_toArray, List.set_cons_zero, List.set_cons_succ]; rfl)) (hJ1_3 () _ ⟨hHeld, (by (with_reducible repeat (first | refine blk_drewN ?_ _ | refine blk_drew ?_ | refine blk_alloc ?_ _)); exact BK369.out), (by (with_reducible repeat (first | refine blk_drewN ?_ _ | refine blk_drew ?_ | refine blk_alloc ?_ _)); exact BK370.out), (by repeat (first | (with_reducible first | exact HB.out | apply below_alloc | apply pw_below_drewN | apply below_drew1 | refine below_set ?_ GE369.out | refine below_set ?_ GE370.out) | exact HB.out))⟩)
                    · skip
                      refine box_step ?hg (N := 5) ?hd (cs := #[.int .i8 0, .int .i8 0, .int .i8 0]) (t := 64) ?hr ?_; (case hd => rfl); (case hg => rfl); (case hr => first | (go_simp; done) | (go_simp; rfl))
                      intro gb377 hg w12 hbox hb
                      have n0_ := Aside0.mk (blk_below (g := gb369) (o := .cells #[.int .i8 a0_0, .int .i8 a0_1, .int .i8 a0_2] 64 (0, 0)) (by (with_reducible repeat (first | refine blk_drewN ?_ _ | refine blk_drew ?_ | refine blk_alloc ?_ _)); exact BK369.out) hb)
                      have n1_ := Aside0.mk (blk_below (g := gb370) (o := .cells #[.int .i8 a1_0, .int .i8 a1_1, .int .i8 a1_2] 64 (0, 0)) (by (with_reducible repeat (first | refine blk_drewN ?_ _ | refine blk_drew ?_ | refine blk_alloc ?_ _)); exact BK370.out) hb)
                      have n2_ := Aside0.mk (below_step (by repeat (first | (with_reducible first | exact HB.out | apply below_alloc | apply pw_below_drewN | apply below_drew1 | refine below_set ?_ GE369.out | refine below_set ?_ GE370.out) | exact HB.out)) hb)
                      have n3_ := Aside0.mk (hbox)
                      have n4_ := Aside0.mk ((by rw [hg]; exact (below_size (by repeat (first | (with_reducible first | exact HB.out | apply below_alloc | apply pw_below_drewN | apply below_drew1 | refine below_set ?_ GE369.out | refine below_set ?_ GE370.out) | exact HB.out))) : w.heap.size ≤ gb377))
                      have n5_ := Aside0.mk ((by rw [hg]; exact (below_size (by repeat (first | (with_reducible first | exact HB.out | apply below_alloc | apply pw_below_drewN | apply below_drew1 | refine below_set ?_ GE369.out | refine below_set ?_ GE370.out) | exact HB.out))) : w.heap.size ≤ gb377))
                      have n6_ := Aside0.mk ((by rw [hg]; exact Nat.ne_of_lt (blk_lt (g := gb369) (o := .cells #[.int .i8 a0_0, .int .i8 a0_1, .int .i8 a0_2] 64 (0, 0)) (by (with_reducible repeat (first | refine blk_drewN ?_ _ | refine blk_drew ?_ | refine blk_alloc ?_ _)); exact BK369.out)) : gb369 ≠ gb377))
                      have n7_ := Aside0.mk ((by rw [hg]; exact Nat.ne_of_gt (blk_lt (g := gb369) (o := .cells #[.int .i8 a0_0, .int .i8 a0_1, .int .i8 a0_2] 64 (0, 0)) (by (with_reducible repeat (first | refine blk_drewN ?_ _ | refine blk_drew ?_ | refine blk_alloc ?_ _)); exact BK369.out)) : gb377 ≠ gb369))
                      have n8_ := Aside0.mk ((by rw [hg]; exact Nat.ne_of_lt (blk_lt (g := gb370) (o := .cells #[.int .i8 a1_0, .int .i8 a1_1, .int .i8 a1_2] 64 (0, 0)) (by (with_reducible repeat (first | refine blk_drewN ?_ _ | refine blk_drew ?_ | refine blk_alloc ?_ _)); exact BK370.out)) : gb370 ≠ gb377))
                      have n9_ := Aside0.mk ((by rw [hg]; exact Nat.ne_of_gt (blk_lt (g := gb370) (o := .cells #[.int .i8 a1_0, .int .i8 a1_1, .int .i8 a1_2] 64 (0, 0)) (by (with_reducible repeat (first | refine blk_drewN ?_ _ | refine blk_drew ?_ | refine blk_alloc ?_ _)); exact BK370.out)) : gb377 ≠ gb370))
                      clear BK369
                      clear BK370
                      clear HB
                      have BK369 := n0_
                      have BK370 := n1_
                      have HB := n2_
                      have BK377 := n3_
                      have GW377 := n4_
                      have GE377 := n5_
                      have NB369_377 := n6_
                      have NB377_369 := n7_
                      have NB370_377 := n8_
                      have NB377_370 := n9_
                      clear n0_ n1_ n2_ n3_ n4_ n5_ n6_ n7_ n8_ n9_
                      clear hb hbox hg
                      refine hK.out _ _ ⟨(blk_cell BK369.out 0).trans rfl, (blk_cell BK369.out 1).trans rfl, (blk_cell BK369.out 2).trans rfl, (blk_cell BK370.out 0).trans rfl, (blk_cell BK370.out 1).trans rfl, (blk_cell BK370.out 2).trans rfl⟩ (fun hHeld => ?_)
                      clear hK K
                      refine norm_ (a' := ?_) ?_ ?_
                      rotate_left
                      · show Act.put _ (some 5) _ = _
                        simp only [Act.put, List.setIfInBounds_toArray, List.set_cons_zero, List.set_cons_succ, i64_w, i32_w]
                        rfl
                      exact norm_ (by first | (simp only [putAll, Act.put, List.setIfInBounds_toArray, List.set_cons_zero, List.set_cons_succ]; done) | (simp only [putAll, Act.put, List.setIfInBounds_toArray, List.set_cons_zero, List.set_cons_succ]; rfl)) (hJ1_4 (gb377) _ ⟨hHeld, (by (with_reducible repeat (first | refine blk_drewN ?_ _ | refine blk_drew ?_ | refine blk_alloc ?_ _)); exact BK369.out), (by (with_reducible repeat (first | refine blk_drewN ?_ _ | refine blk_drew ?_ | refine blk_alloc ?_ _)); exact BK370.out), (by (with_reducible repeat (first | refine blk_drewN ?_ _ | refine blk_drew ?_ | refine blk_alloc ?_ _)); exact BK377.out), GW377.out, GE377.out, NB369_377.out, NB377_369.out, NB370_377.out, NB377_370.out, (by repeat (first | (with_reducible first | exact HB.out | apply below_alloc | apply pw_below_drewN | apply below_drew1 | refine below_set ?_ GE369.out | refine below_set ?_ GE370.out | refine below_set ?_ GE377.out) | exact HB.out))⟩)
                    · skip
                      refine box_step ?hg (N := 6) ?hd (cs := #[.int .i8 0, .int .i8 0, .int .i8 0]) (t := 64) ?hr ?_; (case hd => rfl); (case hg => rfl); (case hr => first | (go_simp; done) | (go_simp; rfl))
                      intro gb378 hg w12 hbox hb
                      have n0_ := Aside0.mk (blk_below (g := gb369) (o := .cells #[.int .i8 a0_0, .int .i8 a0_1, .int .i8 a0_2] 64 (0, 0)) (by (with_reducible repeat (first | refine blk_drewN ?_ _ | refine blk_drew ?_ | refine blk_alloc ?_ _)); exact BK369.out) hb)
                      have n1_ := Aside0.mk (blk_below (g := gb370) (o := .cells #[.int .i8 a1_0, .int .i8 a1_1, .int .i8 a1_2] 64 (0, 0)) (by (with_reducible repeat (first | refine blk_drewN ?_ _ | refine blk_drew ?_ | refine blk_alloc ?_ _)); exact BK370.out) hb)
                      have n2_ := Aside0.mk (below_step (by repeat (first | (with_reducible first | exact HB.out | apply below_alloc | apply pw_below_drewN | apply below_drew1 | refine below_set ?_ GE369.out | refine below_set ?_ GE370.out) | exact HB.out)) hb)
                      have n3_ := Aside0.mk (hbox)
                      have n4_ := Aside0.mk ((by rw [hg]; exact (below_size (by repeat (first | (with_reducible first | exact HB.out | apply below_alloc | apply pw_below_drewN | apply below_drew1 | refine below_set ?_ GE369.out | refine below_set ?_ GE370.out) | exact HB.out))) : w.heap.size ≤ gb378))
                      have n5_ := Aside0.mk ((by rw [hg]; exact (below_size (by repeat (first | (with_reducible first | exact HB.out | apply below_alloc | apply pw_below_drewN | apply below_drew1 | refine below_set ?_ GE369.out | refine below_set ?_ GE370.out) | exact HB.out))) : w.heap.size ≤ gb378))
                      have n6_ := Aside0.mk ((by rw [hg]; exact Nat.ne_of_lt (blk_lt (g := gb369) (o := .cells #[.int .i8 a0_0, .int .i8 a0_1, .int .i8 a0_2] 64 (0, 0)) (by (with_reducible repeat (first | refine blk_drewN ?_ _ | refine blk_drew ?_ | refine blk_alloc ?_ _)); exact BK369.out)) : gb369 ≠ gb378))
                      have n7_ := Aside0.mk ((by rw [hg]; exact Nat.ne_of_gt (blk_lt (g := gb369) (o := .cells #[.int .i8 a0_0, .int .i8 a0_1, .int .i8 a0_2] 64 (0, 0)) (by (with_reducible repeat (first | refine blk_drewN ?_ _ | refine blk_drew ?_ | refine blk_alloc ?_ _)); exact BK369.out)) : gb378 ≠ gb369))
                      have n8_ := Aside0.mk ((by rw [hg]; exact Nat.ne_of_lt (blk_lt (g := gb370) (o := .cells #[.int .i8 a1_0, .int .i8 a1_1, .int .i8 a1_2] 64 (0, 0)) (by (with_reducible repeat (first | refine blk_drewN ?_ _ | refine blk_drew ?_ | refine blk_alloc ?_ _)); exact BK370.out)) : gb370 ≠ gb378))
                      have n9_ := Aside0.mk ((by rw [hg]; exact Nat.ne_of_gt (blk_lt (g := gb370) (o := .cells #[.int .i8 a1_0, .int .i8 a1_1, .int .i8 a1_2] 64 (0, 0)) (by (with_reducible repeat (first | refine blk_drewN ?_ _ | refine blk_drew ?_ | refine blk_alloc ?_ _)); exact BK370.out)) : gb378 ≠ gb370))
                      clear BK369
                      clear BK370
                      clear HB
                      have BK369 := n0_
                      have BK370 := n1_
                      have HB := n2_
                      have BK378 := n3_
                      have GW378 := n4_
                      have GE378 := n5_
                      have NB369_378 := n6_
                      have NB378_369 := n7_
                      have NB370_378 := n8_
                      have NB378_370 := n9_
                      clear n0_ n1_ n2_ n3_ n4_ n5_ n6_ n7_ n8_ n9_
                      clear hb hbox hg
                      refine hK.out _ _ ⟨(blk_cell BK369.out 0).trans rfl, (blk_cell BK369.out 1).trans rfl, (blk_cell BK369.out 2).trans rfl, (blk_cell BK370.out 0).trans rfl, (blk_cell BK370.out 1).trans rfl, (blk_cell BK370.out 2).trans rfl⟩ (fun hHeld => ?_)
                      clear hK K
                      refine norm_ (a' := ?_) ?_ ?_
                      rotate_left
                      · show Act.put _ (some 6) _ = _
                        simp only [Act.put, List.setIfInBounds_toArray, List.set_cons_zero, List.set_cons_succ, i64_w, i32_w]
                        rfl
                      exact norm_ (by first | (simp only [putAll, Act.put, List.setIfInBounds_toArray, List.set_cons_zero, List.set_cons_succ]; done) | (simp only [putAll, Act.put, List.setIfInBounds_toArray, List.set_cons_zero, List.set_cons_succ]; rfl)) (hJ1_5 (gb378) _ ⟨hHeld, (by (with_reducible repeat (first | refine blk_drewN ?_ _ | refine blk_drew ?_ | refine blk_alloc ?_ _)); exact BK369.out), (by (with_reducible repeat (first | refine blk_drewN ?_ _ | refine blk_drew ?_ | refine blk_alloc ?_ _)); exact BK370.out), (by (with_reducible repeat (first | refine blk_drewN ?_ _ | refine blk_drew ?_ | refine blk_alloc ?_ _)); exact BK378.out), GW378.out, GE378.out, NB369_378.out, NB378_369.out, NB370_378.out, NB378_370.out, (by repeat (first | (with_reducible first | exact HB.out | apply below_alloc | apply pw_below_drewN | apply below_drew1 | refine below_set ?_ GE369.out | refine below_set ?_ GE370.out | refine below_set ?_ GE378.out) | exact HB.out))⟩)
                · skip
                  rintro ⟨gb377, gb378⟩ w12 ⟨hS_, h0_, h1_, h2_, h3_, h4_, h5_, h6_, h7_, h8_, h9_, h10_, h11_, h12_, h13_, h14_, h15_, h16_, h17_, h18_⟩
                  have n0_ : Aside0 (w12.heap[gb369]? = some (.cells #[.int .i8 a0_0, .int .i8 a0_1, .int .i8 a0_2] 64 (0, 0))) := ⟨h0_⟩
                  have n1_ : Aside0 (w12.heap[gb370]? = some (.cells #[.int .i8 a1_0, .int .i8 a1_1, .int .i8 a1_2] 64 (0, 0))) := ⟨h1_⟩
                  have n2_ : Aside0 (w12.heap[gb377]? = some (.cells #[.int .i8 0, .int .i8 0, .int .i8 0] 64 (0, 0))) := ⟨h2_⟩
                  have n3_ : Aside0 (w12.heap[gb378]? = some (.cells #[.int .i8 0, .int .i8 0, .int .i8 0] 64 (0, 0))) := ⟨h3_⟩
                  have n4_ : Aside0 (w.heap.size ≤ gb377) := ⟨h4_⟩
                  have n5_ : Aside0 (w.heap.size ≤ gb377) := ⟨h5_⟩
                  have n6_ : Aside0 (gb369 ≠ gb377) := ⟨h6_⟩
                  have n7_ : Aside0 (gb377 ≠ gb369) := ⟨h7_⟩
                  have n8_ : Aside0 (gb370 ≠ gb377) := ⟨h8_⟩
                  have n9_ : Aside0 (gb377 ≠ gb370) := ⟨h9_⟩
                  have n10_ : Aside0 (gb378 ≠ gb377) := ⟨h10_⟩
                  have n11_ : Aside0 (gb377 ≠ gb378) := ⟨h11_⟩
                  have n12_ : Aside0 (w.heap.size ≤ gb378) := ⟨h12_⟩
                  have n13_ : Aside0 (w.heap.size ≤ gb378) := ⟨h13_⟩
                  have n14_ : Aside0 (gb369 ≠ gb378) := ⟨h14_⟩
                  have n15_ : Aside0 (gb378 ≠ gb369) := ⟨h15_⟩
                  have n16_ : Aside0 (gb370 ≠ gb378) := ⟨h16_⟩
                  have n17_ : Aside0 (gb378 ≠ gb370) := ⟨h17_⟩
                  have n18_ : Aside0 (Below w.heap.size w w12) := ⟨h18_⟩
                  clear BK369
                  clear BK370
                  clear HB
                  clear h0_ h1_ h2_ h3_ h4_ h5_ h6_ h7_ h8_ h9_ h10_ h11_ h12_ h13_ h14_ h15_ h16_ h17_ h18_
                  have BK369 := n0_
                  have BK370 := n1_
                  have BK377 := n2_
                  have BK378 := n3_
                  have GW377 := n4_
                  have GE377 := n5_
                  have NB369_377 := n6_
                  have NB377_369 := n7_
                  have NB370_377 := n8_
                  have NB377_370 := n9_
                  have NB378_377 := n10_
                  have NB377_378 := n11_
                  have GW378 := n12_
                  have GE378 := n13_
                  have NB369_378 := n14_
                  have NB378_369 := n15_
                  have NB370_378 := n16_
                  have NB378_370 := n17_
                  have HB := n18_
                  clear n0_ n1_ n2_ n3_ n4_ n5_ n6_ n7_ n8_ n9_ n10_ n11_ n12_ n13_ n14_ n15_ n16_ n17_ n18_
                  have hHeld : w12.cell? ⟨gb369, 0, none⟩ = some (.int .i8 a0_0) ∧ w12.cell? ⟨gb369, 1, none⟩ = some (.int .i8 a0_1) ∧ w12.cell? ⟨gb369, 2, none⟩ = some (.int .i8 a0_2) ∧ w12.cell? ⟨gb370, 0, none⟩ = some (.int .i8 a1_0) ∧ w12.cell? ⟨gb370, 1, none⟩ = some (.int .i8 a1_1) ∧ w12.cell? ⟨gb370, 2, none⟩ = some (.int .i8 a1_2) := hS_
                  refine norm_ (a' := ?_) ?_ ?_
                  rotate_left
                  · simp only [putAll, Act.put, List.setIfInBounds_toArray, List.set_cons_zero, List.set_cons_succ]
                    rfl
                  refine one_ (i := 1) (N := some 8) #[true, true, true, false, true, true, false, false] rfl rfl (one_of HT_.out (by kernel_rfl)) (by decide) (fun K hK => ?_)
                  refine goes_ Try.func63 (by kernel_rfl) rfl #[.agg #[.int .i8 a0_0, .int .i8 a0_1, .int .i8 a0_2]] (by rfl) rfl rfl (by (try simp only [List.map_toArray, List.map_cons, List.map_nil]); first | done | rfl | (simp only [List.length_drop, List.length_take]; rfl)) ?_
                  with_reducible refine (impl_Box_sorted.calls k a0_0 a0_1 a0_2 t371 t372 t373 _ A3.out).mono ?_
                  rintro e w13 ⟨rfl, hb⟩
                  refine ⟨_, rfl, ?_⟩
                  have n0_ := Aside0.mk (blk_below (g := gb369) (o := .cells #[.int .i8 a0_0, .int .i8 a0_1, .int .i8 a0_2] 64 (0, 0)) (by (with_reducible repeat (first | refine blk_drewN ?_ _ | refine blk_drew ?_ | refine blk_alloc ?_ _)); exact BK369.out) hb)
                  have n1_ := Aside0.mk (blk_below (g := gb370) (o := .cells #[.int .i8 a1_0, .int .i8 a1_1, .int .i8 a1_2] 64 (0, 0)) (by (with_reducible repeat (first | refine blk_drewN ?_ _ | refine blk_drew ?_ | refine blk_alloc ?_ _)); exact BK370.out) hb)
                  have n2_ := Aside0.mk (blk_below (g := gb377) (o := .cells #[.int .i8 0, .int .i8 0, .int .i8 0] 64 (0, 0)) (by (with_reducible repeat (first | refine blk_drewN ?_ _ | refine blk_drew ?_ | refine blk_alloc ?_ _)); exact BK377.out) hb)
                  have n3_ := Aside0.mk (blk_below (g := gb378) (o := .cells #[.int .i8 0, .int .i8 0, .int .i8 0] 64 (0, 0)) (by (with_reducible repeat (first | refine blk_drewN ?_ _ | refine blk_drew ?_ | refine blk_alloc ?_ _)); exact BK378.out) hb)
                  have n4_ := Aside0.mk (below_step (by repeat (first | (with_reducible first | exact HB.out | apply below_alloc | apply pw_below_drewN | apply below_drew1 | refine below_set ?_ GE369.out | refine below_set ?_ GE370.out | refine below_set ?_ GE377.out | refine below_set ?_ GE378.out) | exact HB.out)) hb)
                  clear BK369
                  clear BK370
                  clear BK377
                  clear BK378
                  clear HB
                  have BK369 := n0_
                  have BK370 := n1_
                  have BK377 := n2_
                  have BK378 := n3_
                  have HB := n4_
                  clear n0_ n1_ n2_ n3_ n4_
                  (try clear hb)
                  (try clear hb2)
                  (try clear hk)
                  (try clear hi)
                  refine hK.out _ _ ⟨(blk_cell BK369.out 0).trans rfl, (blk_cell BK369.out 1).trans rfl, (blk_cell BK369.out 2).trans rfl, (blk_cell BK370.out 0).trans rfl, (blk_cell BK370.out 1).trans rfl, (blk_cell BK370.out 2).trans rfl⟩ (fun hHeld => ?_)
                  clear hK K
                  refine norm_ (a' := ?_) ?_ ?_
                  rotate_left
                  · show Act.put _ (some 8) _ = _
                    simp only [Act.put, List.setIfInBounds_toArray, List.set_cons_zero, List.set_cons_succ, i64_w, i32_w]
                    rfl
                  exact norm_ (by first | (simp only [putAll, Act.put, List.setIfInBounds_toArray, List.set_cons_zero, List.set_cons_succ]; done) | (simp only [putAll, Act.put, List.setIfInBounds_toArray, List.set_cons_zero, List.set_cons_succ]; rfl)) (hJ1_4_5 (gb377, gb378) _ ⟨hHeld, (by (with_reducible repeat (first | refine blk_drewN ?_ _ | refine blk_drew ?_ | refine blk_alloc ?_ _)); exact BK369.out), (by (with_reducible repeat (first | refine blk_drewN ?_ _ | refine blk_drew ?_ | refine blk_alloc ?_ _)); exact BK370.out), (by (with_reducible repeat (first | refine blk_drewN ?_ _ | refine blk_drew ?_ | refine blk_alloc ?_ _)); exact BK377.out), (by (with_reducible repeat (first | refine blk_drewN ?_ _ | refine blk_drew ?_ | refine blk_alloc ?_ _)); exact BK378.out), GW377.out, GE377.out, NB369_377.out, NB377_369.out, NB370_377.out, NB377_370.out, NB378_377.out, NB377_378.out, GW378.out, GE378.out, NB369_378.out, NB378_369.out, NB370_378.out, NB378_370.out, (by repeat (first | (with_reducible first | exact HB.out | apply below_alloc | apply pw_below_drewN | apply below_drew1 | refine below_set ?_ GE369.out | refine below_set ?_ GE370.out | refine below_set ?_ GE377.out | refine below_set ?_ GE378.out) | exact HB.out))⟩)
              · skip
                rintro gb378 w12 ⟨hS_, h0_, h1_, h2_, h3_, h4_, h5_, h6_, h7_, h8_, h9_⟩
                have n0_ : Aside0 (w12.heap[gb369]? = some (.cells #[.int .i8 a0_0, .int .i8 a0_1, .int .i8 a0_2] 64 (0, 0))) := ⟨h0_⟩
                have n1_ : Aside0 (w12.heap[gb370]? = some (.cells #[.int .i8 a1_0, .int .i8 a1_1, .int .i8 a1_2] 64 (0, 0))) := ⟨h1_⟩
                have n2_ : Aside0 (w12.heap[gb378]? = some (.cells #[.int .i8 0, .int .i8 0, .int .i8 0] 64 (0, 0))) := ⟨h2_⟩
                have n3_ : Aside0 (w.heap.size ≤ gb378) := ⟨h3_⟩
                have n4_ : Aside0 (w.heap.size ≤ gb378) := ⟨h4_⟩
                have n5_ : Aside0 (gb369 ≠ gb378) := ⟨h5_⟩
                have n6_ : Aside0 (gb378 ≠ gb369) := ⟨h6_⟩
                have n7_ : Aside0 (gb370 ≠ gb378) := ⟨h7_⟩
                have n8_ : Aside0 (gb378 ≠ gb370) := ⟨h8_⟩
                have n9_ : Aside0 (Below w.heap.size w w12) := ⟨h9_⟩
                clear BK369
                clear BK370
                clear HB
                clear h0_ h1_ h2_ h3_ h4_ h5_ h6_ h7_ h8_ h9_
                have BK369 := n0_
                have BK370 := n1_
                have BK378 := n2_
                have GW378 := n3_
                have GE378 := n4_
                have NB369_378 := n5_
                have NB378_369 := n6_
                have NB370_378 := n7_
                have NB378_370 := n8_
                have HB := n9_
                clear n0_ n1_ n2_ n3_ n4_ n5_ n6_ n7_ n8_ n9_
                have hHeld : w12.cell? ⟨gb369, 0, none⟩ = some (.int .i8 a0_0) ∧ w12.cell? ⟨gb369, 1, none⟩ = some (.int .i8 a0_1) ∧ w12.cell? ⟨gb369, 2, none⟩ = some (.int .i8 a0_2) ∧ w12.cell? ⟨gb370, 0, none⟩ = some (.int .i8 a1_0) ∧ w12.cell? ⟨gb370, 1, none⟩ = some (.int .i8 a1_1) ∧ w12.cell? ⟨gb370, 2, none⟩ = some (.int .i8 a1_2) := hS_
                refine norm_ (a' := ?_) ?_ ?_
                rotate_left
                · simp only [putAll, Act.put, List.setIfInBounds_toArray, List.set_cons_zero, List.set_cons_succ]
                  rfl
                refine two_ (i := 3) (j := 4) (Ni := some 10) (Nj := some 5) #[true, true, true, true, false, true, false, false] #[true, true, true, false, true, true, false, false] rfl rfl rfl rfl (two_of HT_.out (by kernel_rfl)) (by decide) (by decide) (fun K hK => ?_) (fun K hK => ?_)
                · skip
                  refine goes_ Try.func63 (by kernel_rfl) rfl #[.agg #[.int .i8 a1_0, .int .i8 a1_1, .int .i8 a1_2]] (by rfl) rfl rfl (by (try simp only [List.map_toArray, List.map_cons, List.map_nil]); first | done | rfl | (simp only [List.length_drop, List.length_take]; rfl)) ?_
                  with_reducible refine (impl_Box_sorted.calls k a1_0 a1_1 a1_2 t374 t375 t376 _ A4.out).mono ?_
                  rintro e w13 ⟨rfl, hb⟩
                  refine ⟨_, rfl, ?_⟩
                  have n0_ := Aside0.mk (blk_below (g := gb369) (o := .cells #[.int .i8 a0_0, .int .i8 a0_1, .int .i8 a0_2] 64 (0, 0)) (by (with_reducible repeat (first | refine blk_drewN ?_ _ | refine blk_drew ?_ | refine blk_alloc ?_ _)); exact BK369.out) hb)
                  have n1_ := Aside0.mk (blk_below (g := gb370) (o := .cells #[.int .i8 a1_0, .int .i8 a1_1, .int .i8 a1_2] 64 (0, 0)) (by (with_reducible repeat (first | refine blk_drewN ?_ _ | refine blk_drew ?_ | refine blk_alloc ?_ _)); exact BK370.out) hb)
                  have n2_ := Aside0.mk (blk_below (g := gb378) (o := .cells #[.int .i8 0, .int .i8 0, .int .i8 0] 64 (0, 0)) (by (with_reducible repeat (first | refine blk_drewN ?_ _ | refine blk_drew ?_ | refine blk_alloc ?_ _)); exact BK378.out) hb)
                  have n3_ := Aside0.mk (below_step (by repeat (first | (with_reducible first | exact HB.out | apply below_alloc | apply pw_below_drewN | apply below_drew1 | refine below_set ?_ GE369.out | refine below_set ?_ GE370.out | refine below_set ?_ GE378.out) | exact HB.out)) hb)
                  clear BK369
                  clear BK370
                  clear BK378
                  clear HB
                  have BK369 := n0_
                  have BK370 := n1_
                  have BK378 := n2_
                  have HB := n3_
                  clear n0_ n1_ n2_ n3_
                  (try clear hb)
                  (try clear hb2)
                  (try clear hk)
                  (try clear hi)
                  refine hK.out _ _ ⟨(blk_cell BK369.out 0).trans rfl, (blk_cell BK369.out 1).trans rfl, (blk_cell BK369.out 2).trans rfl, (blk_cell BK370.out 0).trans rfl, (blk_cell BK370.out 1).trans rfl, (blk_cell BK370.out 2).trans rfl⟩ (fun hHeld => ?_)
                  clear hK K
                  refine norm_ (a' := ?_) ?_ ?_
                  rotate_left
                  · show Act.put _ (some 10) _ = _
                    simp only [Act.put, List.setIfInBounds_toArray, List.set_cons_zero, List.set_cons_succ, i64_w, i32_w]
                    rfl
                  exact norm_ (by first | (simp only [putAll, Act.put, List.setIfInBounds_toArray, List.set_cons_zero, List.set_cons_succ]; done) | (simp only [putAll, Act.put, List.setIfInBounds_toArray, List.set_cons_zero, List.set_cons_succ]; rfl)) (hJ1_3_5 (gb378) _ ⟨hHeld, (by (with_reducible repeat (first | refine blk_drewN ?_ _ | refine blk_drew ?_ | refine blk_alloc ?_ _)); exact BK369.out), (by (with_reducible repeat (first | refine blk_drewN ?_ _ | refine blk_drew ?_ | refine blk_alloc ?_ _)); exact BK370.out), (by (with_reducible repeat (first | refine blk_drewN ?_ _ | refine blk_drew ?_ | refine blk_alloc ?_ _)); exact BK378.out), GW378.out, GE378.out, NB369_378.out, NB378_369.out, NB370_378.out, NB378_370.out, (by repeat (first | (with_reducible first | exact HB.out | apply below_alloc | apply pw_below_drewN | apply below_drew1 | refine below_set ?_ GE369.out | refine below_set ?_ GE370.out | refine below_set ?_ GE378.out) | exact HB.out))⟩)
                · skip
                  refine box_step ?hg (N := 5) ?hd (cs := #[.int .i8 0, .int .i8 0, .int .i8 0]) (t := 64) ?hr ?_; (case hd => rfl); (case hg => rfl); (case hr => first | (go_simp; done) | (go_simp; rfl))
                  intro gb377 hg w13 hbox hb
                  have n0_ := Aside0.mk (blk_below (g := gb369) (o := .cells #[.int .i8 a0_0, .int .i8 a0_1, .int .i8 a0_2] 64 (0, 0)) (by (with_reducible repeat (first | refine blk_drewN ?_ _ | refine blk_drew ?_ | refine blk_alloc ?_ _)); exact BK369.out) hb)
                  have n1_ := Aside0.mk (blk_below (g := gb370) (o := .cells #[.int .i8 a1_0, .int .i8 a1_1, .int .i8 a1_2] 64 (0, 0)) (by (with_reducible repeat (first | refine blk_drewN ?_ _ | refine blk_drew ?_ | refine blk_alloc ?_ _)); exact BK370.out) hb)
                  have n2_ := Aside0.mk (blk_below (g := gb378) (o := .cells #[.int .i8 0, .int .i8 0, .int .i8 0] 64 (0, 0)) (by (with_reducible repeat (first | refine blk_drewN ?_ _ | refine blk_drew ?_ | refine blk_alloc ?_ _)); exact BK378.out) hb)
                  have n3_ := Aside0.mk (below_step (by repeat (first | (with_reducible first | exact HB.out | apply below_alloc | apply pw_below_drewN | apply below_drew1 | refine below_set ?_ GE369.out | refine below_set ?_ GE370.out | refine below_set ?_ GE378.out) | exact HB.out)) hb)
                  have n4_ := Aside0.mk (hbox)
                  have n5_ := Aside0.mk ((by rw [hg]; exact (below_size (by repeat (first | (with_reducible first | exact HB.out | apply below_alloc | apply pw_below_drewN | apply below_drew1 | refine below_set ?_ GE369.out | refine below_set ?_ GE370.out | refine below_set ?_ GE378.out) | exact HB.out))) : w.heap.size ≤ gb377))
                  have n6_ := Aside0.mk ((by rw [hg]; exact (below_size (by repeat (first | (with_reducible first | exact HB.out | apply below_alloc | apply pw_below_drewN | apply below_drew1 | refine below_set ?_ GE369.out | refine below_set ?_ GE370.out | refine below_set ?_ GE378.out) | exact HB.out))) : w.heap.size ≤ gb377))
                  have n7_ := Aside0.mk ((by rw [hg]; exact Nat.ne_of_lt (blk_lt (g := gb369) (o := .cells #[.int .i8 a0_0, .int .i8 a0_1, .int .i8 a0_2] 64 (0, 0)) (by (with_reducible repeat (first | refine blk_drewN ?_ _ | refine blk_drew ?_ | refine blk_alloc ?_ _)); exact BK369.out)) : gb369 ≠ gb377))
                  have n8_ := Aside0.mk ((by rw [hg]; exact Nat.ne_of_gt (blk_lt (g := gb369) (o := .cells #[.int .i8 a0_0, .int .i8 a0_1, .int .i8 a0_2] 64 (0, 0)) (by (with_reducible repeat (first | refine blk_drewN ?_ _ | refine blk_drew ?_ | refine blk_alloc ?_ _)); exact BK369.out)) : gb377 ≠ gb369))
                  have n9_ := Aside0.mk ((by rw [hg]; exact Nat.ne_of_lt (blk_lt (g := gb370) (o := .cells #[.int .i8 a1_0, .int .i8 a1_1, .int .i8 a1_2] 64 (0, 0)) (by (with_reducible repeat (first | refine blk_drewN ?_ _ | refine blk_drew ?_ | refine blk_alloc ?_ _)); exact BK370.out)) : gb370 ≠ gb377))
                  have n10_ := Aside0.mk ((by rw [hg]; exact Nat.ne_of_gt (blk_lt (g := gb370) (o := .cells #[.int .i8 a1_0, .int .i8 a1_1, .int .i8 a1_2] 64 (0, 0)) (by (with_reducible repeat (first | refine blk_drewN ?_ _ | refine blk_drew ?_ | refine blk_alloc ?_ _)); exact BK370.out)) : gb377 ≠ gb370))
                  have n11_ := Aside0.mk ((by rw [hg]; exact Nat.ne_of_lt (blk_lt (g := gb378) (o := .cells #[.int .i8 0, .int .i8 0, .int .i8 0] 64 (0, 0)) (by (with_reducible repeat (first | refine blk_drewN ?_ _ | refine blk_drew ?_ | refine blk_alloc ?_ _)); exact BK378.out)) : gb378 ≠ gb377))
                  have n12_ := Aside0.mk ((by rw [hg]; exact Nat.ne_of_gt (blk_lt (g := gb378) (o := .cells #[.int .i8 0, .int .i8 0, .int .i8 0] 64 (0, 0)) (by (with_reducible repeat (first | refine blk_drewN ?_ _ | refine blk_drew ?_ | refine blk_alloc ?_ _)); exact BK378.out)) : gb377 ≠ gb378))
                  clear BK369
                  clear BK370
                  clear BK378
                  clear HB
                  have BK369 := n0_
                  have BK370 := n1_
                  have BK378 := n2_
                  have HB := n3_
                  have BK377 := n4_
                  have GW377 := n5_
                  have GE377 := n6_
                  have NB369_377 := n7_
                  have NB377_369 := n8_
                  have NB370_377 := n9_
                  have NB377_370 := n10_
                  have NB378_377 := n11_
                  have NB377_378 := n12_
                  clear n0_ n1_ n2_ n3_ n4_ n5_ n6_ n7_ n8_ n9_ n10_ n11_ n12_
                  clear hb hbox hg
                  refine hK.out _ _ ⟨(blk_cell BK369.out 0).trans rfl, (blk_cell BK369.out 1).trans rfl, (blk_cell BK369.out 2).trans rfl, (blk_cell BK370.out 0).trans rfl, (blk_cell BK370.out 1).trans rfl, (blk_cell BK370.out 2).trans rfl⟩ (fun hHeld => ?_)
                  clear hK K
                  refine norm_ (a' := ?_) ?_ ?_
                  rotate_left
                  · show Act.put _ (some 5) _ = _
                    simp only [Act.put, List.setIfInBounds_toArray, List.set_cons_zero, List.set_cons_succ, i64_w, i32_w]
                    rfl
                  exact norm_ (by first | (simp only [putAll, Act.put, List.setIfInBounds_toArray, List.set_cons_zero, List.set_cons_succ]; done) | (simp only [putAll, Act.put, List.setIfInBounds_toArray, List.set_cons_zero, List.set_cons_succ]; rfl)) (hJ1_4_5 (gb377, gb378) _ ⟨hHeld, (by (with_reducible repeat (first | refine blk_drewN ?_ _ | refine blk_drew ?_ | refine blk_alloc ?_ _)); exact BK369.out), (by (with_reducible repeat (first | refine blk_drewN ?_ _ | refine blk_drew ?_ | refine blk_alloc ?_ _)); exact BK370.out), (by (with_reducible repeat (first | refine blk_drewN ?_ _ | refine blk_drew ?_ | refine blk_alloc ?_ _)); exact BK377.out), (by (with_reducible repeat (first | refine blk_drewN ?_ _ | refine blk_drew ?_ | refine blk_alloc ?_ _)); exact BK378.out), GW377.out, GE377.out, NB369_377.out, NB377_369.out, NB370_377.out, NB377_370.out, NB378_377.out, NB377_378.out, GW378.out, GE378.out, NB369_378.out, NB378_369.out, NB370_378.out, NB378_370.out, (by repeat (first | (with_reducible first | exact HB.out | apply below_alloc | apply pw_below_drewN | apply below_drew1 | refine below_set ?_ GE369.out | refine below_set ?_ GE370.out | refine below_set ?_ GE378.out | refine below_set ?_ GE377.out) | exact HB.out))⟩)
            · skip
              rintro gb377 w12 ⟨hS_, h0_, h1_, h2_, h3_, h4_, h5_, h6_, h7_, h8_, h9_⟩
              have n0_ : Aside0 (w12.heap[gb369]? = some (.cells #[.int .i8 a0_0, .int .i8 a0_1, .int .i8 a0_2] 64 (0, 0))) := ⟨h0_⟩
              have n1_ : Aside0 (w12.heap[gb370]? = some (.cells #[.int .i8 a1_0, .int .i8 a1_1, .int .i8 a1_2] 64 (0, 0))) := ⟨h1_⟩
              have n2_ : Aside0 (w12.heap[gb377]? = some (.cells #[.int .i8 0, .int .i8 0, .int .i8 0] 64 (0, 0))) := ⟨h2_⟩
              have n3_ : Aside0 (w.heap.size ≤ gb377) := ⟨h3_⟩
              have n4_ : Aside0 (w.heap.size ≤ gb377) := ⟨h4_⟩
              have n5_ : Aside0 (gb369 ≠ gb377) := ⟨h5_⟩
              have n6_ : Aside0 (gb377 ≠ gb369) := ⟨h6_⟩
              have n7_ : Aside0 (gb370 ≠ gb377) := ⟨h7_⟩
              have n8_ : Aside0 (gb377 ≠ gb370) := ⟨h8_⟩
              have n9_ : Aside0 (Below w.heap.size w w12) := ⟨h9_⟩
              clear BK369
              clear BK370
              clear HB
              clear h0_ h1_ h2_ h3_ h4_ h5_ h6_ h7_ h8_ h9_
              have BK369 := n0_
              have BK370 := n1_
              have BK377 := n2_
              have GW377 := n3_
              have GE377 := n4_
              have NB369_377 := n5_
              have NB377_369 := n6_
              have NB370_377 := n7_
              have NB377_370 := n8_
              have HB := n9_
              clear n0_ n1_ n2_ n3_ n4_ n5_ n6_ n7_ n8_ n9_
              have hHeld : w12.cell? ⟨gb369, 0, none⟩ = some (.int .i8 a0_0) ∧ w12.cell? ⟨gb369, 1, none⟩ = some (.int .i8 a0_1) ∧ w12.cell? ⟨gb369, 2, none⟩ = some (.int .i8 a0_2) ∧ w12.cell? ⟨gb370, 0, none⟩ = some (.int .i8 a1_0) ∧ w12.cell? ⟨gb370, 1, none⟩ = some (.int .i8 a1_1) ∧ w12.cell? ⟨gb370, 2, none⟩ = some (.int .i8 a1_2) := hS_
              refine norm_ (a' := ?_) ?_ ?_
              rotate_left
              · simp only [putAll, Act.put, List.setIfInBounds_toArray, List.set_cons_zero, List.set_cons_succ]
                rfl
              refine two_ (i := 3) (j := 5) (Ni := some 10) (Nj := some 6) #[true, true, true, true, true, false, false, false] #[true, true, true, false, true, true, false, false] rfl rfl rfl rfl (two_of HT_.out (by kernel_rfl)) (by decide) (by decide) (fun K hK => ?_) (fun K hK => ?_)
              · skip
                refine goes_ Try.func63 (by kernel_rfl) rfl #[.agg #[.int .i8 a1_0, .int .i8 a1_1, .int .i8 a1_2]] (by rfl) rfl rfl (by (try simp only [List.map_toArray, List.map_cons, List.map_nil]); first | done | rfl | (simp only [List.length_drop, List.length_take]; rfl)) ?_
                with_reducible refine (impl_Box_sorted.calls k a1_0 a1_1 a1_2 t374 t375 t376 _ A4.out).mono ?_
                rintro e w13 ⟨rfl, hb⟩
                refine ⟨_, rfl, ?_⟩
                have n0_ := Aside0.mk (blk_below (g := gb369) (o := .cells #[.int .i8 a0_0, .int .i8 a0_1, .int .i8 a0_2] 64 (0, 0)) (by (with_reducible repeat (first | refine blk_drewN ?_ _ | refine blk_drew ?_ | refine blk_alloc ?_ _)); exact BK369.out) hb)
                have n1_ := Aside0.mk (blk_below (g := gb370) (o := .cells #[.int .i8 a1_0, .int .i8 a1_1, .int .i8 a1_2] 64 (0, 0)) (by (with_reducible repeat (first | refine blk_drewN ?_ _ | refine blk_drew ?_ | refine blk_alloc ?_ _)); exact BK370.out) hb)
                have n2_ := Aside0.mk (blk_below (g := gb377) (o := .cells #[.int .i8 0, .int .i8 0, .int .i8 0] 64 (0, 0)) (by (with_reducible repeat (first | refine blk_drewN ?_ _ | refine blk_drew ?_ | refine blk_alloc ?_ _)); exact BK377.out) hb)
                have n3_ := Aside0.mk (below_step (by repeat (first | (with_reducible first | exact HB.out | apply below_alloc | apply pw_below_drewN | apply below_drew1 | refine below_set ?_ GE369.out | refine below_set ?_ GE370.out | refine below_set ?_ GE377.out) | exact HB.out)) hb)
                clear BK369
                clear BK370
                clear BK377
                clear HB
                have BK369 := n0_
                have BK370 := n1_
                have BK377 := n2_
                have HB := n3_
                clear n0_ n1_ n2_ n3_
                (try clear hb)
                (try clear hb2)
                (try clear hk)
                (try clear hi)
                refine hK.out _ _ ⟨(blk_cell BK369.out 0).trans rfl, (blk_cell BK369.out 1).trans rfl, (blk_cell BK369.out 2).trans rfl, (blk_cell BK370.out 0).trans rfl, (blk_cell BK370.out 1).trans rfl, (blk_cell BK370.out 2).trans rfl⟩ (fun hHeld => ?_)
                clear hK K
                refine norm_ (a' := ?_) ?_ ?_
                rotate_left
                · show Act.put _ (some 10) _ = _
                  simp only [Act.put, List.setIfInBounds_toArray, List.set_cons_zero, List.set_cons_succ, i64_w, i32_w]
                  rfl
                exact norm_ (by first | (simp only [putAll, Act.put, List.setIfInBounds_toArray, List.set_cons_zero, List.set_cons_succ]; done) | (simp only [putAll, Act.put, List.setIfInBounds_toArray, List.set_cons_zero, List.set_cons_succ]; rfl)) (hJ1_3_4 (gb377) _ ⟨hHeld, (by (with_reducible repeat (first | refine blk_drewN ?_ _ | refine blk_drew ?_ | refine blk_alloc ?_ _)); exact BK369.out), (by (with_reducible repeat (first | refine blk_drewN ?_ _ | refine blk_drew ?_ | refine blk_alloc ?_ _)); exact BK370.out), (by (with_reducible repeat (first | refine blk_drewN ?_ _ | refine blk_drew ?_ | refine blk_alloc ?_ _)); exact BK377.out), GW377.out, GE377.out, NB369_377.out, NB377_369.out, NB370_377.out, NB377_370.out, (by repeat (first | (with_reducible first | exact HB.out | apply below_alloc | apply pw_below_drewN | apply below_drew1 | refine below_set ?_ GE369.out | refine below_set ?_ GE370.out | refine below_set ?_ GE377.out) | exact HB.out))⟩)
              · skip
                refine box_step ?hg (N := 6) ?hd (cs := #[.int .i8 0, .int .i8 0, .int .i8 0]) (t := 64) ?hr ?_; (case hd => rfl); (case hg => rfl); (case hr => first | (go_simp; done) | (go_simp; rfl))
                intro gb378 hg w13 hbox hb
                have n0_ := Aside0.mk (blk_below (g := gb369) (o := .cells #[.int .i8 a0_0, .int .i8 a0_1, .int .i8 a0_2] 64 (0, 0)) (by (with_reducible repeat (first | refine blk_drewN ?_ _ | refine blk_drew ?_ | refine blk_alloc ?_ _)); exact BK369.out) hb)
                have n1_ := Aside0.mk (blk_below (g := gb370) (o := .cells #[.int .i8 a1_0, .int .i8 a1_1, .int .i8 a1_2] 64 (0, 0)) (by (with_reducible repeat (first | refine blk_drewN ?_ _ | refine blk_drew ?_ | refine blk_alloc ?_ _)); exact BK370.out) hb)
                have n2_ := Aside0.mk (blk_below (g := gb377) (o := .cells #[.int .i8 0, .int .i8 0, .int .i8 0] 64 (0, 0)) (by (with_reducible repeat (first | refine blk_drewN ?_ _ | refine blk_drew ?_ | refine blk_alloc ?_ _)); exact BK377.out) hb)
                have n3_ := Aside0.mk (below_step (by repeat (first | (with_reducible first | exact HB.out | apply below_alloc | apply pw_below_drewN | apply below_drew1 | refine below_set ?_ GE369.out | refine below_set ?_ GE370.out | refine below_set ?_ GE377.out) | exact HB.out)) hb)
                have n4_ := Aside0.mk (hbox)
                have n5_ := Aside0.mk ((by rw [hg]; exact (below_size (by repeat (first | (with_reducible first | exact HB.out | apply below_alloc | apply pw_below_drewN | apply below_drew1 | refine below_set ?_ GE369.out | refine below_set ?_ GE370.out | refine below_set ?_ GE377.out) | exact HB.out))) : w.heap.size ≤ gb378))
                have n6_ := Aside0.mk ((by rw [hg]; exact (below_size (by repeat (first | (with_reducible first | exact HB.out | apply below_alloc | apply pw_below_drewN | apply below_drew1 | refine below_set ?_ GE369.out | refine below_set ?_ GE370.out | refine below_set ?_ GE377.out) | exact HB.out))) : w.heap.size ≤ gb378))
                have n7_ := Aside0.mk ((by rw [hg]; exact Nat.ne_of_lt (blk_lt (g := gb369) (o := .cells #[.int .i8 a0_0, .int .i8 a0_1, .int .i8 a0_2] 64 (0, 0)) (by (with_reducible repeat (first | refine blk_drewN ?_ _ | refine blk_drew ?_ | refine blk_alloc ?_ _)); exact BK369.out)) : gb369 ≠ gb378))
                have n8_ := Aside0.mk ((by rw [hg]; exact Nat.ne_of_gt (blk_lt (g := gb369) (o := .cells #[.int .i8 a0_0, .int .i8 a0_1, .int .i8 a0_2] 64 (0, 0)) (by (with_reducible repeat (first | refine blk_drewN ?_ _ | refine blk_drew ?_ | refine blk_alloc ?_ _)); exact BK369.out)) : gb378 ≠ gb369))
                have n9_ := Aside0.mk ((by rw [hg]; exact Nat.ne_of_lt (blk_lt (g := gb370) (o := .cells #[.int .i8 a1_0, .int .i8 a1_1, .int .i8 a1_2] 64 (0, 0)) (by (with_reducible repeat (first | refine blk_drewN ?_ _ | refine blk_drew ?_ | refine blk_alloc ?_ _)); exact BK370.out)) : gb370 ≠ gb378))
                have n10_ := Aside0.mk ((by rw [hg]; exact Nat.ne_of_gt (blk_lt (g := gb370) (o := .cells #[.int .i8 a1_0, .int .i8 a1_1, .int .i8 a1_2] 64 (0, 0)) (by (with_reducible repeat (first | refine blk_drewN ?_ _ | refine blk_drew ?_ | refine blk_alloc ?_ _)); exact BK370.out)) : gb378 ≠ gb370))
                have n11_ := Aside0.mk ((by rw [hg]; exact Nat.ne_of_lt (blk_lt (g := gb377) (o := .cells #[.int .i8 0, .int .i8 0, .int .i8 0] 64 (0, 0)) (by (with_reducible repeat (first | refine blk_drewN ?_ _ | refine blk_drew ?_ | refine blk_alloc ?_ _)); exact BK377.out)) : gb377 ≠ gb378))
                have n12_ := Aside0.mk ((by rw [hg]; exact Nat.ne_of_gt (blk_lt (g := gb377) (o := .cells #[.int .i8 0, .int .i8 0, .int .i8 0] 64 (0, 0)) (by (with_reducible repeat (first | refine blk_drewN ?_ _ | refine blk_drew ?_ | refine blk_alloc ?_ _)); exact BK377.out)) : gb378 ≠ gb377))
                clear BK369
                clear BK370
                clear BK377
                clear HB
                have BK369 := n0_
                have BK370 := n1_
                have BK377 := n2_
                have HB := n3_
                have BK378 := n4_
                have GW378 := n5_
                have GE378 := n6_
                have NB369_378 := n7_
                have NB378_369 := n8_
                have NB370_378 := n9_
                have NB378_370 := n10_
                have NB377_378 := n11_
                have NB378_377 := n12_
                clear n0_ n1_ n2_ n3_ n4_ n5_ n6_ n7_ n8_ n9_ n10_ n11_ n12_
                clear hb hbox hg
                refine hK.out _ _ ⟨(blk_cell BK369.out 0).trans rfl, (blk_cell BK369.out 1).trans rfl, (blk_cell BK369.out 2).trans rfl, (blk_cell BK370.out 0).trans rfl, (blk_cell BK370.out 1).trans rfl, (blk_cell BK370.out 2).trans rfl⟩ (fun hHeld => ?_)
                clear hK K
                refine norm_ (a' := ?_) ?_ ?_
                rotate_left
                · show Act.put _ (some 6) _ = _
                  simp only [Act.put, List.setIfInBounds_toArray, List.set_cons_zero, List.set_cons_succ, i64_w, i32_w]
                  rfl
                exact norm_ (by first | (simp only [putAll, Act.put, List.setIfInBounds_toArray, List.set_cons_zero, List.set_cons_succ]; done) | (simp only [putAll, Act.put, List.setIfInBounds_toArray, List.set_cons_zero, List.set_cons_succ]; rfl)) (hJ1_4_5 (gb377, gb378) _ ⟨hHeld, (by (with_reducible repeat (first | refine blk_drewN ?_ _ | refine blk_drew ?_ | refine blk_alloc ?_ _)); exact BK369.out), (by (with_reducible repeat (first | refine blk_drewN ?_ _ | refine blk_drew ?_ | refine blk_alloc ?_ _)); exact BK370.out), (by (with_reducible repeat (first | refine blk_drewN ?_ _ | refine blk_drew ?_ | refine blk_alloc ?_ _)); exact BK377.out), (by (with_reducible repeat (first | refine blk_drewN ?_ _ | refine blk_drew ?_ | refine blk_alloc ?_ _)); exact BK378.out), GW377.out, GE377.out, NB369_377.out, NB377_369.out, NB370_377.out, NB377_370.out, NB378_377.out, NB377_378.out, GW378.out, GE378.out, NB369_378.out, NB378_369.out, NB370_378.out, NB378_370.out, (by repeat (first | (with_reducible first | exact HB.out | apply below_alloc | apply pw_below_drewN | apply below_drew1 | refine below_set ?_ GE369.out | refine below_set ?_ GE370.out | refine below_set ?_ GE377.out | refine below_set ?_ GE378.out) | exact HB.out))⟩)
          · skip
            rintro _ w12 ⟨hS_, h0_, h1_, h2_⟩
            have n0_ : Aside0 (w12.heap[gb369]? = some (.cells #[.int .i8 a0_0, .int .i8 a0_1, .int .i8 a0_2] 64 (0, 0))) := ⟨h0_⟩
            have n1_ : Aside0 (w12.heap[gb370]? = some (.cells #[.int .i8 a1_0, .int .i8 a1_1, .int .i8 a1_2] 64 (0, 0))) := ⟨h1_⟩
            have n2_ : Aside0 (Below w.heap.size w w12) := ⟨h2_⟩
            clear BK369
            clear BK370
            clear HB
            clear h0_ h1_ h2_
            have BK369 := n0_
            have BK370 := n1_
            have HB := n2_
            clear n0_ n1_ n2_
            have hHeld : w12.cell? ⟨gb369, 0, none⟩ = some (.int .i8 a0_0) ∧ w12.cell? ⟨gb369, 1, none⟩ = some (.int .i8 a0_1) ∧ w12.cell? ⟨gb369, 2, none⟩ = some (.int .i8 a0_2) ∧ w12.cell? ⟨gb370, 0, none⟩ = some (.int .i8 a1_0) ∧ w12.cell? ⟨gb370, 1, none⟩ = some (.int .i8 a1_1) ∧ w12.cell? ⟨gb370, 2, none⟩ = some (.int .i8 a1_2) := hS_
            refine norm_ (a' := ?_) ?_ ?_
            rotate_left
            · simp only [putAll, Act.put, List.setIfInBounds_toArray, List.set_cons_zero, List.set_cons_succ]
              rfl
            refine two_ (i := 4) (j := 5) (Ni := some 5) (Nj := some 6) #[true, true, true, true, true, false, false, false] #[true, true, true, true, false, true, false, false] rfl rfl rfl rfl (two_of HT_.out (by kernel_rfl)) (by decide) (by decide) (fun K hK => ?_) (fun K hK => ?_)
            · skip
              refine box_step ?hg (N := 5) ?hd (cs := #[.int .i8 0, .int .i8 0, .int .i8 0]) (t := 64) ?hr ?_; (case hd => rfl); (case hg => rfl); (case hr => first | (go_simp; done) | (go_simp; rfl))
              intro gb377 hg w13 hbox hb
              have n0_ := Aside0.mk (blk_below (g := gb369) (o := .cells #[.int .i8 a0_0, .int .i8 a0_1, .int .i8 a0_2] 64 (0, 0)) (by (with_reducible repeat (first | refine blk_drewN ?_ _ | refine blk_drew ?_ | refine blk_alloc ?_ _)); exact BK369.out) hb)
              have n1_ := Aside0.mk (blk_below (g := gb370) (o := .cells #[.int .i8 a1_0, .int .i8 a1_1, .int .i8 a1_2] 64 (0, 0)) (by (with_reducible repeat (first | refine blk_drewN ?_ _ | refine blk_drew ?_ | refine blk_alloc ?_ _)); exact BK370.out) hb)
              have n2_ := Aside0.mk (below_step (by repeat (first | (with_reducible first | exact HB.out | apply below_alloc | apply pw_below_drewN | apply below_drew1 | refine below_set ?_ GE369.out | refine below_set ?_ GE370.out) | exact HB.out)) hb)
              have n3_ := Aside0.mk (hbox)
              have n4_ := Aside0.mk ((by rw [hg]; exact (below_size (by repeat (first | (with_reducible first | exact HB.out | apply below_alloc | apply pw_below_drewN | apply below_drew1 | refine below_set ?_ GE369.out | refine below_set ?_ GE370.out) | exact HB.out))) : w.heap.size ≤ gb377))
              have n5_ := Aside0.mk ((by rw [hg]; exact (below_size (by repeat (first | (with_reducible first | exact HB.out | apply below_alloc | apply pw_below_drewN | apply below_drew1 | refine below_set ?_ GE369.out | refine below_set ?_ GE370.out) | exact HB.out))) : w.heap.size ≤ gb377))
              have n6_ := Aside0.mk ((by rw [hg]; exact Nat.ne_of_lt (blk_lt (g := gb369) (o := .cells #[.int .i8 a0_0, .int .i8 a0_1, .int .i8 a0_2] 64 (0, 0)) (by (with_reducible repeat (first | refine blk_drewN ?_ _ | refine blk_drew ?_ | refine blk_alloc ?_ _)); exact BK369.out)) : gb369 ≠ gb377))
              have n7_ := Aside0.mk ((by rw [hg]; exact Nat.ne_of_gt (blk_lt (g := gb369) (o := .cells #[.int .i8 a0_0, .int .i8 a0_1, .int .i8 a0_2] 64 (0, 0)) (by (with_reducible repeat (first | refine blk_drewN ?_ _ | refine blk_drew ?_ | refine blk_alloc ?_ _)); exact BK369.out)) : gb377 ≠ gb369))
              have n8_ := Aside0.mk ((by rw [hg]; exact Nat.ne_of_lt (blk_lt (g := gb370) (o := .cells #[.int .i8 a1_0, .int .i8 a1_1, .int .i8 a1_2] 64 (0, 0)) (by (with_reducible repeat (first | refine blk_drewN ?_ _ | refine blk_drew ?_ | refine blk_alloc ?_ _)); exact BK370.out)) : gb370 ≠ gb377))
              have n9_ := Aside0.mk ((by rw [hg]; exact Nat.ne_of_gt (blk_lt (g := gb370) (o := .cells #[.int .i8 a1_0, .int .i8 a1_1, .int .i8 a1_2] 64 (0, 0)) (by (with_reducible repeat (first | refine blk_drewN ?_ _ | refine blk_drew ?_ | refine blk_alloc ?_ _)); exact BK370.out)) : gb377 ≠ gb370))
              clear BK369
              clear BK370
              clear HB
              have BK369 := n0_
              have BK370 := n1_
              have HB := n2_
              have BK377 := n3_
              have GW377 := n4_
              have GE377 := n5_
              have NB369_377 := n6_
              have NB377_369 := n7_
              have NB370_377 := n8_
              have NB377_370 := n9_
              clear n0_ n1_ n2_ n3_ n4_ n5_ n6_ n7_ n8_ n9_
              clear hb hbox hg
              refine hK.out _ _ ⟨(blk_cell BK369.out 0).trans rfl, (blk_cell BK369.out 1).trans rfl, (blk_cell BK369.out 2).trans rfl, (blk_cell BK370.out 0).trans rfl, (blk_cell BK370.out 1).trans rfl, (blk_cell BK370.out 2).trans rfl⟩ (fun hHeld => ?_)
              clear hK K
              refine norm_ (a' := ?_) ?_ ?_
              rotate_left
              · show Act.put _ (some 5) _ = _
                simp only [Act.put, List.setIfInBounds_toArray, List.set_cons_zero, List.set_cons_succ, i64_w, i32_w]
                rfl
              exact norm_ (by first | (simp only [putAll, Act.put, List.setIfInBounds_toArray, List.set_cons_zero, List.set_cons_succ]; done) | (simp only [putAll, Act.put, List.setIfInBounds_toArray, List.set_cons_zero, List.set_cons_succ]; rfl)) (hJ1_3_4 (gb377) _ ⟨hHeld, (by (with_reducible repeat (first | refine blk_drewN ?_ _ | refine blk_drew ?_ | refine blk_alloc ?_ _)); exact BK369.out), (by (with_reducible repeat (first | refine blk_drewN ?_ _ | refine blk_drew ?_ | refine blk_alloc ?_ _)); exact BK370.out), (by (with_reducible repeat (first | refine blk_drewN ?_ _ | refine blk_drew ?_ | refine blk_alloc ?_ _)); exact BK377.out), GW377.out, GE377.out, NB369_377.out, NB377_369.out, NB370_377.out, NB377_370.out, (by repeat (first | (with_reducible first | exact HB.out | apply below_alloc | apply pw_below_drewN | apply below_drew1 | refine below_set ?_ GE369.out | refine below_set ?_ GE370.out | refine below_set ?_ GE377.out) | exact HB.out))⟩)
            · skip
              refine box_step ?hg (N := 6) ?hd (cs := #[.int .i8 0, .int .i8 0, .int .i8 0]) (t := 64) ?hr ?_; (case hd => rfl); (case hg => rfl); (case hr => first | (go_simp; done) | (go_simp; rfl))
              intro gb378 hg w13 hbox hb
              have n0_ := Aside0.mk (blk_below (g := gb369) (o := .cells #[.int .i8 a0_0, .int .i8 a0_1, .int .i8 a0_2] 64 (0, 0)) (by (with_reducible repeat (first | refine blk_drewN ?_ _ | refine blk_drew ?_ | refine blk_alloc ?_ _)); exact BK369.out) hb)
              have n1_ := Aside0.mk (blk_below (g := gb370) (o := .cells #[.int .i8 a1_0, .int .i8 a1_1, .int .i8 a1_2] 64 (0, 0)) (by (with_reducible repeat (first | refine blk_drewN ?_ _ | refine blk_drew ?_ | refine blk_alloc ?_ _)); exact BK370.out) hb)
              have n2_ := Aside0.mk (below_step (by repeat (first | (with_reducible first | exact HB.out | apply below_alloc | apply pw_below_drewN | apply below_drew1 | refine below_set ?_ GE369.out | refine below_set ?_ GE370.out) | exact HB.out)) hb)
              have n3_ := Aside0.mk (hbox)
              have n4_ := Aside0.mk ((by rw [hg]; exact (below_size (by repeat (first | (with_reducible first | exact HB.out | apply below_alloc | apply pw_below_drewN | apply below_drew1 | refine below_set ?_ GE369.out | refine below_set ?_ GE370.out) | exact HB.out))) : w.heap.size ≤ gb378))
              have n5_ := Aside0.mk ((by rw [hg]; exact (below_size (by repeat (first | (with_reducible first | exact HB.out | apply below_alloc | apply pw_below_drewN | apply below_drew1 | refine below_set ?_ GE369.out | refine below_set ?_ GE370.out) | exact HB.out))) : w.heap.size ≤ gb378))
              have n6_ := Aside0.mk ((by rw [hg]; exact Nat.ne_of_lt (blk_lt (g := gb369) (o := .cells #[.int .i8 a0_0, .int .i8 a0_1, .int .i8 a0_2] 64 (0, 0)) (by (with_reducible repeat (first | refine blk_drewN ?_ _ | refine blk_drew ?_ | refine blk_alloc ?_ _)); exact BK369.out)) : gb369 ≠ gb378))
              have n7_ := Aside0.mk ((by rw [hg]; exact Nat.ne_of_gt (blk_lt (g := gb369) (o := .cells #[.int .i8 a0_0, .int .i8 a0_1, .int .i8 a0_2] 64 (0, 0)) (by (with_reducible repeat (first | refine blk_drewN ?_ _ | refine blk_drew ?_ | refine blk_alloc ?_ _)); exact BK369.out)) : gb378 ≠ gb369))
              have n8_ := Aside0.mk ((by rw [hg]; exact Nat.ne_of_lt (blk_lt (g := gb370) (o := .cells #[.int .i8 a1_0, .int .i8 a1_1, .int .i8 a1_2] 64 (0, 0)) (by (with_reducible repeat (first | refine blk_drewN ?_ _ | refine blk_drew ?_ | refine blk_alloc ?_ _)); exact BK370.out)) : gb370 ≠ gb378))
              have n9_ := Aside0.mk ((by rw [hg]; exact Nat.ne_of_gt (blk_lt (g := gb370) (o := .cells #[.int .i8 a1_0, .int .i8 a1_1, .int .i8 a1_2] 64 (0, 0)) (by (with_reducible repeat (first | refine blk_drewN ?_ _ | refine blk_drew ?_ | refine blk_alloc ?_ _)); exact BK370.out)) : gb378 ≠ gb370))
              clear BK369
              clear BK370
              clear HB
              have BK369 := n0_
              have BK370 := n1_
              have HB := n2_
              have BK378 := n3_
              have GW378 := n4_
              have GE378 := n5_
              have NB369_378 := n6_
              have NB378_369 := n7_
              have NB370_378 := n8_
              have NB378_370 := n9_
              clear n0_ n1_ n2_ n3_ n4_ n5_ n6_ n7_ n8_ n9_
              clear hb hbox hg
              refine hK.out _ _ ⟨(blk_cell BK369.out 0).trans rfl, (blk_cell BK369.out 1).trans rfl, (blk_cell BK369.out 2).trans rfl, (blk_cell BK370.out 0).trans rfl, (blk_cell BK370.out 1).trans rfl, (blk_cell BK370.out 2).trans rfl⟩ (fun hHeld => ?_)
              clear hK K
              refine norm_ (a' := ?_) ?_ ?_
              rotate_left
              · show Act.put _ (some 6) _ = _
                simp only [Act.put, List.setIfInBounds_toArray, List.set_cons_zero, List.set_cons_succ, i64_w, i32_w]
                rfl
              exact norm_ (by first | (simp only [putAll, Act.put, List.setIfInBounds_toArray, List.set_cons_zero, List.set_cons_succ]; done) | (simp only [putAll, Act.put, List.setIfInBounds_toArray, List.set_cons_zero, List.set_cons_succ]; rfl)) (hJ1_3_5 (gb378) _ ⟨hHeld, (by (with_reducible repeat (first | refine blk_drewN ?_ _ | refine blk_drew ?_ | refine blk_alloc ?_ _)); exact BK369.out), (by (with_reducible repeat (first | refine blk_drewN ?_ _ | refine blk_drew ?_ | refine blk_alloc ?_ _)); exact BK370.out), (by (with_reducible repeat (first | refine blk_drewN ?_ _ | refine blk_drew ?_ | refine blk_alloc ?_ _)); exact BK378.out), GW378.out, GE378.out, NB369_378.out, NB378_369.out, NB370_378.out, NB378_370.out, (by repeat (first | (with_reducible first | exact HB.out | apply below_alloc | apply pw_below_drewN | apply below_drew1 | refine below_set ?_ GE369.out | refine below_set ?_ GE370.out | refine below_set ?_ GE378.out) | exact HB.out))⟩)
        · skip
          rintro ⟨gb377, gb378⟩ w13 ⟨hS_, h0_, h1_, h2_, h3_, h4_, h5_, h6_, h7_, h8_, h9_, h10_, h11_, h12_, h13_, h14_, h15_, h16_, h17_, h18_⟩
          have n0_ : Aside0 (w13.heap[gb369]? = some (.cells #[.int .i8 a0_0, .int .i8 a0_1, .int .i8 a0_2] 64 (0, 0))) := ⟨h0_⟩
          have n1_ : Aside0 (w13.heap[gb370]? = some (.cells #[.int .i8 a1_0, .int .i8 a1_1, .int .i8 a1_2] 64 (0, 0))) := ⟨h1_⟩
          have n2_ : Aside0 (w13.heap[gb377]? = some (.cells #[.int .i8 0, .int .i8 0, .int .i8 0] 64 (0, 0))) := ⟨h2_⟩
          have n3_ : Aside0 (w13.heap[gb378]? = some (.cells #[.int .i8 0, .int .i8 0, .int .i8 0] 64 (0, 0))) := ⟨h3_⟩
          have n4_ : Aside0 (w.heap.size ≤ gb377) := ⟨h4_⟩
          have n5_ : Aside0 (w.heap.size ≤ gb377) := ⟨h5_⟩
          have n6_ : Aside0 (gb369 ≠ gb377) := ⟨h6_⟩
          have n7_ : Aside0 (gb377 ≠ gb369) := ⟨h7_⟩
          have n8_ : Aside0 (gb370 ≠ gb377) := ⟨h8_⟩
          have n9_ : Aside0 (gb377 ≠ gb370) := ⟨h9_⟩
          have n10_ : Aside0 (gb378 ≠ gb377) := ⟨h10_⟩
          have n11_ : Aside0 (gb377 ≠ gb378) := ⟨h11_⟩
          have n12_ : Aside0 (w.heap.size ≤ gb378) := ⟨h12_⟩
          have n13_ : Aside0 (w.heap.size ≤ gb378) := ⟨h13_⟩
          have n14_ : Aside0 (gb369 ≠ gb378) := ⟨h14_⟩
          have n15_ : Aside0 (gb378 ≠ gb369) := ⟨h15_⟩
          have n16_ : Aside0 (gb370 ≠ gb378) := ⟨h16_⟩
          have n17_ : Aside0 (gb378 ≠ gb370) := ⟨h17_⟩
          have n18_ : Aside0 (Below w.heap.size w w13) := ⟨h18_⟩
          clear BK369
          clear BK370
          clear HB
          clear h0_ h1_ h2_ h3_ h4_ h5_ h6_ h7_ h8_ h9_ h10_ h11_ h12_ h13_ h14_ h15_ h16_ h17_ h18_
          have BK369 := n0_
          have BK370 := n1_
          have BK377 := n2_
          have BK378 := n3_
          have GW377 := n4_
          have GE377 := n5_
          have NB369_377 := n6_
          have NB377_369 := n7_
          have NB370_377 := n8_
          have NB377_370 := n9_
          have NB378_377 := n10_
          have NB377_378 := n11_
          have GW378 := n12_
          have GE378 := n13_
          have NB369_378 := n14_
          have NB378_369 := n15_
          have NB370_378 := n16_
          have NB378_370 := n17_
          have HB := n18_
          clear n0_ n1_ n2_ n3_ n4_ n5_ n6_ n7_ n8_ n9_ n10_ n11_ n12_ n13_ n14_ n15_ n16_ n17_ n18_
          have hHeld : w13.cell? ⟨gb369, 0, none⟩ = some (.int .i8 a0_0) ∧ w13.cell? ⟨gb369, 1, none⟩ = some (.int .i8 a0_1) ∧ w13.cell? ⟨gb369, 2, none⟩ = some (.int .i8 a0_2) ∧ w13.cell? ⟨gb370, 0, none⟩ = some (.int .i8 a1_0) ∧ w13.cell? ⟨gb370, 1, none⟩ = some (.int .i8 a1_1) ∧ w13.cell? ⟨gb370, 2, none⟩ = some (.int .i8 a1_2) := hS_
          refine norm_ (a' := ?_) ?_ ?_
          rotate_left
          · simp only [putAll, Act.put, List.setIfInBounds_toArray, List.set_cons_zero, List.set_cons_succ]
            rfl
          refine one_ (i := 3) (N := some 10) #[true, true, true, true, true, true, false, false] rfl rfl (one_of HT_.out (by kernel_rfl)) (by decide) (fun K hK => ?_)
          refine goes_ Try.func63 (by kernel_rfl) rfl #[.agg #[.int .i8 a1_0, .int .i8 a1_1, .int .i8 a1_2]] (by rfl) rfl rfl (by (try simp only [List.map_toArray, List.map_cons, List.map_nil]); first | done | rfl | (simp only [List.length_drop, List.length_take]; rfl)) ?_
          with_reducible refine (impl_Box_sorted.calls k a1_0 a1_1 a1_2 t374 t375 t376 _ A4.out).mono ?_
          rintro e w14 ⟨rfl, hb⟩
          refine ⟨_, rfl, ?_⟩
          have n0_ := Aside0.mk (blk_below (g := gb369) (o := .cells #[.int .i8 a0_0, .int .i8 a0_1, .int .i8 a0_2] 64 (0, 0)) (by (with_reducible repeat (first | refine blk_drewN ?_ _ | refine blk_drew ?_ | refine blk_alloc ?_ _)); exact BK369.out) hb)
          have n1_ := Aside0.mk (blk_below (g := gb370) (o := .cells #[.int .i8 a1_0, .int .i8 a1_1, .int .i8 a1_2] 64 (0, 0)) (by (with_reducible repeat (first | refine blk_drewN ?_ _ | refine blk_drew ?_ | refine blk_alloc ?_ _)); exact BK370.out) hb)
          have n2_ := Aside0.mk (blk_below (g := gb377) (o := .cells #[.int .i8 0, .int .i8 0, .int .i8 0] 64 (0, 0)) (by (with_reducible repeat (first | refine blk_drewN ?_ _ | refine blk_drew ?_ | refine blk_alloc ?_ _)); exact BK377.out) hb)
          have n3_ := Aside0.mk (blk_below (g := gb378) (o := .cells #[.int .i8 0, .int .i8 0, .int .i8 0] 64 (0, 0)) (by (with_reducible repeat (first | refine blk_drewN ?_ _ | refine blk_drew ?_ | refine blk_alloc ?_ _)); exact BK378.out) hb)
          have n4_ := Aside0.mk (below_step (by repeat (first | (with_reducible first | exact HB.out | apply below_alloc | apply pw_below_drewN | apply below_drew1 | refine below_set ?_ GE369.out | refine below_set ?_ GE370.out | refine below_set ?_ GE377.out | refine below_set ?_ GE378.out) | exact HB.out)) hb)
          clear BK369
          clear BK370
          clear BK377
          clear BK378
          clear HB
          have BK369 := n0_
          have BK370 := n1_
          have BK377 := n2_
          have BK378 := n3_
          have HB := n4_
          clear n0_ n1_ n2_ n3_ n4_
          (try clear hb)
          (try clear hb2)
          (try clear hk)
          (try clear hi)
          refine hK.out _ _ ⟨(blk_cell BK369.out 0).trans rfl, (blk_cell BK369.out 1).trans rfl, (blk_cell BK369.out 2).trans rfl, (blk_cell BK370.out 0).trans rfl, (blk_cell BK370.out 1).trans rfl, (blk_cell BK370.out 2).trans rfl⟩ (fun hHeld => ?_)
          clear hK K
          refine norm_ (a' := ?_) ?_ ?_
          rotate_left
          · show Act.put _ (some 10) _ = _
            simp only [Act.put, List.setIfInBounds_toArray, List.set_cons_zero, List.set_cons_succ, i64_w, i32_w]
            rfl
          exact norm_ (by first | (simp only [putAll, Act.put, List.setIfInBounds_toArray, List.set_cons_zero, List.set_cons_succ]; done) | (simp only [putAll, Act.put, List.setIfInBounds_toArray, List.set_cons_zero, List.set_cons_succ]; rfl)) (hJ1_3_4_5 (gb377, gb378) _ ⟨hHeld, (by (with_reducible repeat (first | refine blk_drewN ?_ _ | refine blk_drew ?_ | refine blk_alloc ?_ _)); exact BK369.out), (by (with_reducible repeat (first | refine blk_drewN ?_ _ | refine blk_drew ?_ | refine blk_alloc ?_ _)); exact BK370.out), (by (with_reducible repeat (first | refine blk_drewN ?_ _ | refine blk_drew ?_ | refine blk_alloc ?_ _)); exact BK377.out), (by (with_reducible repeat (first | refine blk_drewN ?_ _ | refine blk_drew ?_ | refine blk_alloc ?_ _)); exact BK378.out), GW377.out, GE377.out, NB369_377.out, NB377_369.out, NB370_377.out, NB377_370.out, NB378_377.out, NB377_378.out, GW378.out, GE378.out, NB369_378.out, NB378_369.out, NB370_378.out, NB378_370.out, (by repeat (first | (with_reducible first | exact HB.out | apply below_alloc | apply pw_below_drewN | apply below_drew1 | refine below_set ?_ GE369.out | refine below_set ?_ GE370.out | refine below_set ?_ GE377.out | refine below_set ?_ GE378.out) | exact HB.out))⟩)
      · skip
        rintro gb378 w13 ⟨hS_, h0_, h1_, h2_, h3_, h4_, h5_, h6_, h7_, h8_, h9_⟩
        have n0_ : Aside0 (w13.heap[gb369]? = some (.cells #[.int .i8 a0_0, .int .i8 a0_1, .int .i8 a0_2] 64 (0, 0))) := ⟨h0_⟩
        have n1_ : Aside0 (w13.heap[gb370]? = some (.cells #[.int .i8 a1_0, .int .i8 a1_1, .int .i8 a1_2] 64 (0, 0))) := ⟨h1_⟩
        have n2_ : Aside0 (w13.heap[gb378]? = some (.cells #[.int .i8 0, .int .i8 0, .int .i8 0] 64 (0, 0))) := ⟨h2_⟩
        have n3_ : Aside0 (w.heap.size ≤ gb378) := ⟨h3_⟩
        have n4_ : Aside0 (w.heap.size ≤ gb378) := ⟨h4_⟩
        have n5_ : Aside0 (gb369 ≠ gb378) := ⟨h5_⟩
        have n6_ : Aside0 (gb378 ≠ gb369) := ⟨h6_⟩
        have n7_ : Aside0 (gb370 ≠ gb378) := ⟨h7_⟩
        have n8_ : Aside0 (gb378 ≠ gb370) := ⟨h8_⟩
        have n9_ : Aside0 (Below w.heap.size w w13) := ⟨h9_⟩
        clear BK369
        clear BK370
        clear HB
        clear h0_ h1_ h2_ h3_ h4_ h5_ h6_ h7_ h8_ h9_
        have BK369 := n0_
        have BK370 := n1_
        have BK378 := n2_
        have GW378 := n3_
        have GE378 := n4_
        have NB369_378 := n5_
        have NB378_369 := n6_
        have NB370_378 := n7_
        have NB378_370 := n8_
        have HB := n9_
        clear n0_ n1_ n2_ n3_ n4_ n5_ n6_ n7_ n8_ n9_
        have hHeld : w13.cell? ⟨gb369, 0, none⟩ = some (.int .i8 a0_0) ∧ w13.cell? ⟨gb369, 1, none⟩ = some (.int .i8 a0_1) ∧ w13.cell? ⟨gb369, 2, none⟩ = some (.int .i8 a0_2) ∧ w13.cell? ⟨gb370, 0, none⟩ = some (.int .i8 a1_0) ∧ w13.cell? ⟨gb370, 1, none⟩ = some (.int .i8 a1_1) ∧ w13.cell? ⟨gb370, 2, none⟩ = some (.int .i8 a1_2) := hS_
        refine norm_ (a' := ?_) ?_ ?_
        rotate_left
        · simp only [putAll, Act.put, List.setIfInBounds_toArray, List.set_cons_zero, List.set_cons_succ]
          rfl
        refine one_ (i := 4) (N := some 5) #[true, true, true, true, true, true, false, false] rfl rfl (one_of HT_.out (by kernel_rfl)) (by decide) (fun K hK => ?_)
        refine box_step ?hg (N := 5) ?hd (cs := #[.int .i8 0, .int .i8 0, .int .i8 0]) (t := 64) ?hr ?_; (case hd => rfl); (case hg => rfl); (case hr => first | (go_simp; done) | (go_simp; rfl))
        intro gb377 hg w14 hbox hb
        have n0_ := Aside0.mk (blk_below (g := gb369) (o := .cells #[.int .i8 a0_0, .int .i8 a0_1, .int .i8 a0_2] 64 (0, 0)) (by (with_reducible repeat (first | refine blk_drewN ?_ _ | refine blk_drew ?_ | refine blk_alloc ?_ _)); exact BK369.out) hb)
        have n1_ := Aside0.mk (blk_below (g := gb370) (o := .cells #[.int .i8 a1_0, .int .i8 a1_1, .int .i8 a1_2] 64 (0, 0)) (by (with_reducible repeat (first | refine blk_drewN ?_ _ | refine blk_drew ?_ | refine blk_alloc ?_ _)); exact BK370.out) hb)
        have n2_ := Aside0.mk (blk_below (g := gb378) (o := .cells #[.int .i8 0, .int .i8 0, .int .i8 0] 64 (0, 0)) (by (with_reducible repeat (first | refine blk_drewN ?_ _ | refine blk_drew ?_ | refine blk_alloc ?_ _)); exact BK378.out) hb)
        have n3_ := Aside0.mk (below_step (by repeat (first | (with_reducible first | exact HB.out | apply below_alloc | apply pw_below_drewN | apply below_drew1 | refine below_set ?_ GE369.out | refine below_set ?_ GE370.out | refine below_set ?_ GE378.out) | exact HB.out)) hb)
        have n4_ := Aside0.mk (hbox)
        have n5_ := Aside0.mk ((by rw [hg]; exact (below_size (by repeat (first | (with_reducible first | exact HB.out | apply below_alloc | apply pw_below_drewN | apply below_drew1 | refine below_set ?_ GE369.out | refine below_set ?_ GE370.out | refine below_set ?_ GE378.out) | exact HB.out))) : w.heap.size ≤ gb377))
        have n6_ := Aside0.mk ((by rw [hg]; exact (below_size (by repeat (first | (with_reducible first | exact HB.out | apply below_alloc | apply pw_below_drewN | apply below_drew1 | refine below_set ?_ GE369.out | refine below_set ?_ GE370.out | refine below_set ?_ GE378.out) | exact HB.out))) : w.heap.size ≤ gb377))
        have n7_ := Aside0.mk ((by rw [hg]; exact Nat.ne_of_lt (blk_lt (g := gb369) (o := .cells #[.int .i8 a0_0, .int .i8 a0_1, .int .i8 a0_2] 64 (0, 0)) (by (with_reducible repeat (first | refine blk_drewN ?_ _ | refine blk_drew ?_ | refine blk_alloc ?_ _)); exact BK369.out)) : gb369 ≠ gb377))
        have n8_ := Aside0.mk ((by rw [hg]; exact Nat.ne_of_gt (blk_lt (g := gb369) (o := .cells #[.int .i8 a0_0, .int .i8 a0_1, .int .i8 a0_2] 64 (0, 0)) (by (with_reducible repeat (first | refine blk_drewN ?_ _ | refine blk_drew ?_ | refine blk_alloc ?_ _)); exact BK369.out)) : gb377 ≠ gb369))
        have n9_ := Aside0.mk ((by rw [hg]; exact Nat.ne_of_lt (blk_lt (g := gb370) (o := .cells #[.int .i8 a1_0, .int .i8 a1_1, .int .i8 a1_2] 64 (0, 0)) (by (with_reducible repeat (first | refine blk_drewN ?_ _ | refine blk_drew ?_ | refine blk_alloc ?_ _)); exact BK370.out)) : gb370 ≠ gb377))
        have n10_ := Aside0.mk ((by rw [hg]; exact Nat.ne_of_gt (blk_lt (g := gb370) (o := .cells #[.int .i8 a1_0, .int .i8 a1_1, .int .i8 a1_2] 64 (0, 0)) (by (with_reducible repeat (first | refine blk_drewN ?_ _ | refine blk_drew ?_ | refine blk_alloc ?_ _)); exact BK370.out)) : gb377 ≠ gb370))
        have n11_ := Aside0.mk ((by rw [hg]; exact Nat.ne_of_lt (blk_lt (g := gb378) (o := .cells #[.int .i8 0, .int .i8 0, .int .i8 0] 64 (0, 0)) (by (with_reducible repeat (first | refine blk_drewN ?_ _ | refine blk_drew ?_ | refine blk_alloc ?_ _)); exact BK378.out)) : gb378 ≠ gb377))
        have n12_ := Aside0.mk ((by rw [hg]; exact Nat.ne_of_gt (blk_lt (g := gb378) (o := .cells #[.int .i8 0, .int .i8 0, .int .i8 0] 64 (0, 0)) (by (with_reducible repeat (first | refine blk_drewN ?_ _ | refine blk_drew ?_ | refine blk_alloc ?_ _)); exact BK378.out)) : gb377 ≠ gb378))
        clear BK369
        clear BK370
        clear BK378
        clear HB
        have BK369 := n0_
        have BK370 := n1_
        have BK378 := n2_
        have HB := n3_
        have BK377 := n4_
        have GW377 := n5_
        have GE377 := n6_
        have NB369_377 := n7_
        have NB377_369 := n8_
        have NB370_377 := n9_
        have NB377_370 := n10_
        have NB378_377 := n11_
        have NB377_378 := n12_
        clear n0_ n1_ n2_ n3_ n4_ n5_ n6_ n7_ n8_ n9_ n10_ n11_ n12_
        clear hb hbox hg
        refine hK.out _ _ ⟨(blk_cell BK369.out 0).trans rfl, (blk_cell BK369.out 1).trans rfl, (blk_cell BK369.out 2).trans rfl, (blk_cell BK370.out 0).trans rfl, (blk_cell BK370.out 1).trans rfl, (blk_cell BK370.out 2).trans rfl⟩ (fun hHeld => ?_)
        clear hK K
        refine norm_ (a' := ?_) ?_ ?_
        rotate_left
        · show Act.put _ (some 5) _ = _
          simp only [Act.put, List.setIfInBounds_toArray, List.set_cons_zero, List.set_cons_succ, i64_w, i32_w]
          rfl
        exact norm_ (by first | (simp only [putAll, Act.put, List.setIfInBounds_toArray, List.set_cons_zero, List.set_cons_succ]; done) | (simp only [putAll, Act.put, List.setIfInBounds_toArray, List.set_cons_zero, List.set_cons_succ]; rfl)) (hJ1_3_4_5 (gb377, gb378) _ ⟨hHeld, (by (with_reducible repeat (first | refine blk_drewN ?_ _ | refine blk_drew ?_ | refine blk_alloc ?_ _)); exact BK369.out), (by (with_reducible repeat (first | refine blk_drewN ?_ _ | refine blk_drew ?_ | refine blk_alloc ?_ _)); exact BK370.out), (by (with_reducible repeat (first | refine blk_drewN ?_ _ | refine blk_drew ?_ | refine blk_alloc ?_ _)); exact BK377.out), (by (with_reducible repeat (first | refine blk_drewN ?_ _ | refine blk_drew ?_ | refine blk_alloc ?_ _)); exact BK378.out), GW377.out, GE377.out, NB369_377.out, NB377_369.out, NB370_377.out, NB377_370.out, NB378_377.out, NB377_378.out, GW378.out, GE378.out, NB369_378.out, NB378_369.out, NB370_378.out, NB378_370.out, (by repeat (first | (with_reducible first | exact HB.out | apply below_alloc | apply pw_below_drewN | apply below_drew1 | refine below_set ?_ GE369.out | refine below_set ?_ GE370.out | refine below_set ?_ GE378.out | refine below_set ?_ GE377.out) | exact HB.out))⟩)
    · skip
      rintro gb377 w13 ⟨hS_, h0_, h1_, h2_, h3_, h4_, h5_, h6_, h7_, h8_, h9_⟩
      have n0_ : Aside0 (w13.heap[gb369]? = some (.cells #[.int .i8 a0_0, .int .i8 a0_1, .int .i8 a0_2] 64 (0, 0))) := ⟨h0_⟩
      have n1_ : Aside0 (w13.heap[gb370]? = some (.cells #[.int .i8 a1_0, .int .i8 a1_1, .int .i8 a1_2] 64 (0, 0))) := ⟨h1_⟩
      have n2_ : Aside0 (w13.heap[gb377]? = some (.cells #[.int .i8 0, .int .i8 0, .int .i8 0] 64 (0, 0))) := ⟨h2_⟩
      have n3_ : Aside0 (w.heap.size ≤ gb377) := ⟨h3_⟩
      have n4_ : Aside0 (w.heap.size ≤ gb377) := ⟨h4_⟩
      have n5_ : Aside0 (gb369 ≠ gb377) := ⟨h5_⟩
      have n6_ : Aside0 (gb377 ≠ gb369) := ⟨h6_⟩
      have n7_ : Aside0 (gb370 ≠ gb377) := ⟨h7_⟩
      have n8_ : Aside0 (gb377 ≠ gb370) := ⟨h8_⟩
      have n9_ : Aside0 (Below w.heap.size w w13) := ⟨h9_⟩
      clear BK369
      clear BK370
      clear HB
      clear h0_ h1_ h2_ h3_ h4_ h5_ h6_ h7_ h8_ h9_
      have BK369 := n0_
      have BK370 := n1_
      have BK377 := n2_
      have GW377 := n3_
      have GE377 := n4_
      have NB369_377 := n5_
      have NB377_369 := n6_
      have NB370_377 := n7_
      have NB377_370 := n8_
      have HB := n9_
      clear n0_ n1_ n2_ n3_ n4_ n5_ n6_ n7_ n8_ n9_
      have hHeld : w13.cell? ⟨gb369, 0, none⟩ = some (.int .i8 a0_0) ∧ w13.cell? ⟨gb369, 1, none⟩ = some (.int .i8 a0_1) ∧ w13.cell? ⟨gb369, 2, none⟩ = some (.int .i8 a0_2) ∧ w13.cell? ⟨gb370, 0, none⟩ = some (.int .i8 a1_0) ∧ w13.cell? ⟨gb370, 1, none⟩ = some (.int .i8 a1_1) ∧ w13.cell? ⟨gb370, 2, none⟩ = some (.int .i8 a1_2) := hS_
      refine norm_ (a' := ?_) ?_ ?_
      rotate_left
      · simp only [putAll, Act.put, List.setIfInBounds_toArray, List.set_cons_zero, List.set_cons_succ]
        rfl
      refine one_ (i := 5) (N := some 6) #[true, true, true, true, true, true, false, false] rfl rfl (one_of HT_.out (by kernel_rfl)) (by decide) (fun K hK => ?_)
      refine box_step ?hg (N := 6) ?hd (cs := #[.int .i8 0, .int .i8 0, .int .i8 0]) (t := 64) ?hr ?_; (case hd => rfl); (case hg => rfl); (case hr => first | (go_simp; done) | (go_simp; rfl))
      intro gb378 hg w14 hbox hb
      have n0_ := Aside0.mk (blk_below (g := gb369) (o := .cells #[.int .i8 a0_0, .int .i8 a0_1, .int .i8 a0_2] 64 (0, 0)) (by (with_reducible repeat (first | refine blk_drewN ?_ _ | refine blk_drew ?_ | refine blk_alloc ?_ _)); exact BK369.out) hb)
      have n1_ := Aside0.mk (blk_below (g := gb370) (o := .cells #[.int .i8 a1_0, .int .i8 a1_1, .int .i8 a1_2] 64 (0, 0)) (by (with_reducible repeat (first | refine blk_drewN ?_ _ | refine blk_drew ?_ | refine blk_alloc ?_ _)); exact BK370.out) hb)
      have n2_ := Aside0.mk (blk_below (g := gb377) (o := .cells #[.int .i8 0, .int .i8 0, .int .i8 0] 64 (0, 0)) (by (with_reducible repeat (first | refine blk_drewN ?_ _ | refine blk_drew ?_ | refine blk_alloc ?_ _)); exact BK377.out) hb)
      have n3_ := Aside0.mk (below_step (by repeat (first | (with_reducible first | exact HB.out | apply below_alloc | apply pw_below_drewN | apply below_drew1 | refine below_set ?_ GE369.out | refine below_set ?_ GE370.out | refine below_set ?_ GE377.out) | exact HB.out)) hb)
      have n4_ := Aside0.mk (hbox)
      have n5_ := Aside0.mk ((by rw [hg]; exact (below_size (by repeat (first | (with_reducible first | exact HB.out | apply below_alloc | apply pw_below_drewN | apply below_drew1 | refine below_set ?_ GE369.out | refine below_set ?_ GE370.out | refine below_set ?_ GE377.out) | exact HB.out))) : w.heap.size ≤ gb378))
      have n6_ := Aside0.mk ((by rw [hg]; exact (below_size (by repeat (first | (with_reducible first | exact HB.out | apply below_alloc | apply pw_below_drewN | apply below_drew1 | refine below_set ?_ GE369.out | refine below_set ?_ GE370.out | refine below_set ?_ GE377.out) | exact HB.out))) : w.heap.size ≤ gb378))
      have n7_ := Aside0.mk ((by rw [hg]; exact Nat.ne_of_lt (blk_lt (g := gb369) (o := .cells #[.int .i8 a0_0, .int .i8 a0_1, .int .i8 a0_2] 64 (0, 0)) (by (with_reducible repeat (first | refine blk_drewN ?_ _ | refine blk_drew ?_ | refine blk_alloc ?_ _)); exact BK369.out)) : gb369 ≠ gb378))
      have n8_ := Aside0.mk ((by rw [hg]; exact Nat.ne_of_gt (blk_lt (g := gb369) (o := .cells #[.int .i8 a0_0, .int .i8 a0_1, .int .i8 a0_2] 64 (0, 0)) (by (with_reducible repeat (first | refine blk_drewN ?_ _ | refine blk_drew ?_ | refine blk_alloc ?_ _)); exact BK369.out)) : gb378 ≠ gb369))
      have n9_ := Aside0.mk ((by rw [hg]; exact Nat.ne_of_lt (blk_lt (g := gb370) (o := .cells #[.int .i8 a1_0, .int .i8 a1_1, .int .i8 a1_2] 64 (0, 0)) (by (with_reducible repeat (first | refine blk_drewN ?_ _ | refine blk_drew ?_ | refine blk_alloc ?_ _)); exact BK370.out)) : gb370 ≠ gb378))
      have n10_ := Aside0.mk ((by rw [hg]; exact Nat.ne_of_gt (blk_lt (g := gb370) (o := .cells #[.int .i8 a1_0, .int .i8 a1_1, .int .i8 a1_2] 64 (0, 0)) (by (with_reducible repeat (first | refine blk_drewN ?_ _ | refine blk_drew ?_ | refine blk_alloc ?_ _)); exact BK370.out)) : gb378 ≠ gb370))
      have n11_ := Aside0.mk ((by rw [hg]; exact Nat.ne_of_lt (blk_lt (g := gb377) (o := .cells #[.int .i8 0, .int .i8 0, .int .i8 0] 64 (0, 0)) (by (with_reducible repeat (first | refine blk_drewN ?_ _ | refine blk_drew ?_ | refine blk_alloc ?_ _)); exact BK377.out)) : gb377 ≠ gb378))
      have n12_ := Aside0.mk ((by rw [hg]; exact Nat.ne_of_gt (blk_lt (g := gb377) (o := .cells #[.int .i8 0, .int .i8 0, .int .i8 0] 64 (0, 0)) (by (with_reducible repeat (first | refine blk_drewN ?_ _ | refine blk_drew ?_ | refine blk_alloc ?_ _)); exact BK377.out)) : gb378 ≠ gb377))
      clear BK369
      clear BK370
      clear BK377
      clear HB
      have BK369 := n0_
      have BK370 := n1_
      have BK377 := n2_
      have HB := n3_
      have BK378 := n4_
      have GW378 := n5_
      have GE378 := n6_
      have NB369_378 := n7_
      have NB378_369 := n8_
      have NB370_378 := n9_
      have NB378_370 := n10_
      have NB377_378 := n11_
      have NB378_377 := n12_
      clear n0_ n1_ n2_ n3_ n4_ n5_ n6_ n7_ n8_ n9_ n10_ n11_ n12_
      clear hb hbox hg
      refine hK.out _ _ ⟨(blk_cell BK369.out 0).trans rfl, (blk_cell BK369.out 1).trans rfl, (blk_cell BK369.out 2).trans rfl, (blk_cell BK370.out 0).trans rfl, (blk_cell BK370.out 1).trans rfl, (blk_cell BK370.out 2).trans rfl⟩ (fun hHeld => ?_)
      clear hK K
      refine norm_ (a' := ?_) ?_ ?_
      rotate_left
      · show Act.put _ (some 6) _ = _
        simp only [Act.put, List.setIfInBounds_toArray, List.set_cons_zero, List.set_cons_succ, i64_w, i32_w]
        rfl
      exact norm_ (by first | (simp only [putAll, Act.put, List.setIfInBounds_toArray, List.set_cons_zero, List.set_cons_succ]; done) | (simp only [putAll, Act.put, List.setIfInBounds_toArray, List.set_cons_zero, List.set_cons_succ]; rfl)) (hJ1_3_4_5 (gb377, gb378) _ ⟨hHeld, (by (with_reducible repeat (first | refine blk_drewN ?_ _ | refine blk_drew ?_ | refine blk_alloc ?_ _)); exact BK369.out), (by (with_reducible repeat (first | refine blk_drewN ?_ _ | refine blk_drew ?_ | refine blk_alloc ?_ _)); exact BK370.out), (by (with_reducible repeat (first | refine blk_drewN ?_ _ | refine blk_drew ?_ | refine blk_alloc ?_ _)); exact BK377.out), (by (with_reducible repeat (first | refine blk_drewN ?_ _ | refine blk_drew ?_ | refine blk_alloc ?_ _)); exact BK378.out), GW377.out, GE377.out, NB369_377.out, NB377_369.out, NB370_377.out, NB377_370.out, NB378_377.out, NB377_378.out, GW378.out, GE378.out, NB369_378.out, NB378_369.out, NB370_378.out, NB378_370.out, (by repeat (first | (with_reducible first | exact HB.out | apply below_alloc | apply pw_below_drewN | apply below_drew1 | refine below_set ?_ GE369.out | refine below_set ?_ GE370.out | refine below_set ?_ GE377.out | refine below_set ?_ GE378.out) | exact HB.out))⟩)
  rintro ⟨gb377, gb378⟩ w14 ⟨hS_, h0_, h1_, h2_, h3_, h4_, h5_, h6_, h7_, h8_, h9_, h10_, h11_, h12_, h13_, h14_, h15_, h16_, h17_, h18_⟩
  have n0_ : Aside0 (w14.heap[gb369]? = some (.cells #[.int .i8 a0_0, .int .i8 a0_1, .int .i8 a0_2] 64 (0, 0))) := ⟨h0_⟩
  have n1_ : Aside0 (w14.heap[gb370]? = some (.cells #[.int .i8 a1_0, .int .i8 a1_1, .int .i8 a1_2] 64 (0, 0))) := ⟨h1_⟩
  have n2_ : Aside0 (w14.heap[gb377]? = some (.cells #[.int .i8 0, .int .i8 0, .int .i8 0] 64 (0, 0))) := ⟨h2_⟩
  have n3_ : Aside0 (w14.heap[gb378]? = some (.cells #[.int .i8 0, .int .i8 0, .int .i8 0] 64 (0, 0))) := ⟨h3_⟩
  have n4_ : Aside0 (w.heap.size ≤ gb377) := ⟨h4_⟩
  have n5_ : Aside0 (w.heap.size ≤ gb377) := ⟨h5_⟩
  have n6_ : Aside0 (gb369 ≠ gb377) := ⟨h6_⟩
  have n7_ : Aside0 (gb377 ≠ gb369) := ⟨h7_⟩
  have n8_ : Aside0 (gb370 ≠ gb377) := ⟨h8_⟩
  have n9_ : Aside0 (gb377 ≠ gb370) := ⟨h9_⟩
  have n10_ : Aside0 (gb378 ≠ gb377) := ⟨h10_⟩
  have n11_ : Aside0 (gb377 ≠ gb378) := ⟨h11_⟩
  have n12_ : Aside0 (w.heap.size ≤ gb378) := ⟨h12_⟩
  have n13_ : Aside0 (w.heap.size ≤ gb378) := ⟨h13_⟩
  have n14_ : Aside0 (gb369 ≠ gb378) := ⟨h14_⟩
  have n15_ : Aside0 (gb378 ≠ gb369) := ⟨h15_⟩
  have n16_ : Aside0 (gb370 ≠ gb378) := ⟨h16_⟩
  have n17_ : Aside0 (gb378 ≠ gb370) := ⟨h17_⟩
  have n18_ : Aside0 (Below w.heap.size w w14) := ⟨h18_⟩
  clear BK369
  clear BK370
  clear HB
  clear h0_ h1_ h2_ h3_ h4_ h5_ h6_ h7_ h8_ h9_ h10_ h11_ h12_ h13_ h14_ h15_ h16_ h17_ h18_
  have BK369 := n0_
  have BK370 := n1_
  have BK377 := n2_
  have BK378 := n3_
  have GW377 := n4_
  have GE377 := n5_
  have NB369_377 := n6_
  have NB377_369 := n7_
  have NB370_377 := n8_
  have NB377_370 := n9_
  have NB378_377 := n10_
  have NB377_378 := n11_
  have GW378 := n12_
  have GE378 := n13_
  have NB369_378 := n14_
  have NB378_369 := n15_
  have NB370_378 := n16_
  have NB378_370 := n17_
  have HB := n18_
  clear n0_ n1_ n2_ n3_ n4_ n5_ n6_ n7_ n8_ n9_ n10_ n11_ n12_ n13_ n14_ n15_ n16_ n17_ n18_
  have hHeld : w14.cell? ⟨gb369, 0, none⟩ = some (.int .i8 a0_0) ∧ w14.cell? ⟨gb369, 1, none⟩ = some (.int .i8 a0_1) ∧ w14.cell? ⟨gb369, 2, none⟩ = some (.int .i8 a0_2) ∧ w14.cell? ⟨gb370, 0, none⟩ = some (.int .i8 a1_0) ∧ w14.cell? ⟨gb370, 1, none⟩ = some (.int .i8 a1_1) ∧ w14.cell? ⟨gb370, 2, none⟩ = some (.int .i8 a1_2) := hS_
  refine norm_ (a' := ?_) ?_ ?_
  rotate_left
  · simp only [putAll, Act.put, List.setIfInBounds_toArray, List.set_cons_zero, List.set_cons_succ]
    rfl
  refine one_ (i := 6) (N := none) #[true, true, true, true, true, true, true, false] rfl rfl (one_of HT_.out (by kernel_rfl)) (by decide) (fun K hK => ?_)
  have hs15 : w14.cell? ⟨gb377, 0, none⟩ = some (.int .i8 0) := (blk_cell BK377.out 0).trans rfl
  have hfs15 := blk_frozen BK377.out 0
  have hns15_0 := NB369_377.out
  have hns15_1 := NB370_377.out
  have hns15_3 := NB378_377.out
  have hms15_0 := NB377_369.out
  have hms15_1 := NB377_370.out
  have hms15_3 := NB377_378.out
  have hs16 : w14.cell? ⟨gb377, 1, none⟩ = some (.int .i8 0) := (blk_cell BK377.out 1).trans rfl
  have hfs16 := blk_frozen BK377.out 1
  have hns16_0 := NB369_377.out
  have hns16_1 := NB370_377.out
  have hns16_3 := NB378_377.out
  have hms16_0 := NB377_369.out
  have hms16_1 := NB377_370.out
  have hms16_3 := NB377_378.out
  have hs17 : w14.cell? ⟨gb377, 2, none⟩ = some (.int .i8 0) := (blk_cell BK377.out 2).trans rfl
  have hfs17 := blk_frozen BK377.out 2
  have hns17_0 := NB369_377.out
  have hns17_1 := NB370_377.out
  have hns17_3 := NB378_377.out
  have hms17_0 := NB377_369.out
  have hms17_1 := NB377_370.out
  have hms17_3 := NB377_378.out
  refine skip_ (w1 := ?_) (by rfl) rfl ?_ ?_
  rotate_left
  · go_simp
    rfl
  refine hK.out _ _ ⟨((cell_far (p := ⟨gb377, _, none⟩) NB369_377.out _).trans (((cell_far (p := ⟨gb377, _, none⟩) NB369_377.out _).trans (((cell_far (p := ⟨gb377, _, none⟩) NB369_377.out _).trans (hHeld.1)))))), ((cell_far (p := ⟨gb377, _, none⟩) NB369_377.out _).trans (((cell_far (p := ⟨gb377, _, none⟩) NB369_377.out _).trans (((cell_far (p := ⟨gb377, _, none⟩) NB369_377.out _).trans (hHeld.2.1)))))), ((cell_far (p := ⟨gb377, _, none⟩) NB369_377.out _).trans (((cell_far (p := ⟨gb377, _, none⟩) NB369_377.out _).trans (((cell_far (p := ⟨gb377, _, none⟩) NB369_377.out _).trans (hHeld.2.2.1)))))), ((cell_far (p := ⟨gb377, _, none⟩) NB370_377.out _).trans (((cell_far (p := ⟨gb377, _, none⟩) NB370_377.out _).trans (((cell_far (p := ⟨gb377, _, none⟩) NB370_377.out _).trans (hHeld.2.2.2.1)))))), ((cell_far (p := ⟨gb377, _, none⟩) NB370_377.out _).trans (((cell_far (p := ⟨gb377, _, none⟩) NB370_377.out _).trans (((cell_far (p := ⟨gb377, _, none⟩) NB370_377.out _).trans (hHeld.2.2.2.2.1)))))), ((cell_far (p := ⟨gb377, _, none⟩) NB370_377.out _).trans (((cell_far (p := ⟨gb377, _, none⟩) NB370_377.out _).trans (((cell_far (p := ⟨gb377, _, none⟩) NB370_377.out _).trans (hHeld.2.2.2.2.2))))))⟩ (fun hHeld => ?_)
  clear hK K
  refine one_ (i := 7) (N := none) #[true, true, true, true, true, true, true, true] rfl rfl (one_of HT_.out (by kernel_rfl)) (by decide) (fun K hK => ?_)
  have hs18 : w14.cell? ⟨gb378, 0, none⟩ = some (.int .i8 0) := (blk_cell BK378.out 0).trans rfl
  have hfs18 := blk_frozen BK378.out 0
  have hns18_0 := NB369_378.out
  have hns18_1 := NB370_378.out
  have hns18_2 := NB377_378.out
  have hms18_0 := NB378_369.out
  have hms18_1 := NB378_370.out
  have hms18_2 := NB378_377.out
  have hs19 : w14.cell? ⟨gb378, 1, none⟩ = some (.int .i8 0) := (blk_cell BK378.out 1).trans rfl
  have hfs19 := blk_frozen BK378.out 1
  have hns19_0 := NB369_378.out
  have hns19_1 := NB370_378.out
  have hns19_2 := NB377_378.out
  have hms19_0 := NB378_369.out
  have hms19_1 := NB378_370.out
  have hms19_2 := NB378_377.out
  have hs20 : w14.cell? ⟨gb378, 2, none⟩ = some (.int .i8 0) := (blk_cell BK378.out 2).trans rfl
  have hfs20 := blk_frozen BK378.out 2
  have hns20_0 := NB369_378.out
  have hns20_1 := NB370_378.out
  have hns20_2 := NB377_378.out
  have hms20_0 := NB378_369.out
  have hms20_1 := NB378_370.out
  have hms20_2 := NB378_377.out
  refine skip_ (w1 := ?_) (by rfl) rfl ?_ ?_
  rotate_left
  · go_simp
    rfl
  refine hK.out _ _ ⟨((cell_far (p := ⟨gb378, _, none⟩) NB369_378.out _).trans (((cell_far (p := ⟨gb378, _, none⟩) NB369_378.out _).trans (((cell_far (p := ⟨gb378, _, none⟩) NB369_378.out _).trans (hHeld.1)))))), ((cell_far (p := ⟨gb378, _, none⟩) NB369_378.out _).trans (((cell_far (p := ⟨gb378, _, none⟩) NB369_378.out _).trans (((cell_far (p := ⟨gb378, _, none⟩) NB369_378.out _).trans (hHeld.2.1)))))), ((cell_far (p := ⟨gb378, _, none⟩) NB369_378.out _).trans (((cell_far (p := ⟨gb378, _, none⟩) NB369_378.out _).trans (((cell_far (p := ⟨gb378, _, none⟩) NB369_378.out _).trans (hHeld.2.2.1)))))), ((cell_far (p := ⟨gb378, _, none⟩) NB370_378.out _).trans (((cell_far (p := ⟨gb378, _, none⟩) NB370_378.out _).trans (((cell_far (p := ⟨gb378, _, none⟩) NB370_378.out _).trans (hHeld.2.2.2.1)))))), ((cell_far (p := ⟨gb378, _, none⟩) NB370_378.out _).trans (((cell_far (p := ⟨gb378, _, none⟩) NB370_378.out _).trans (((cell_far (p := ⟨gb378, _, none⟩) NB370_378.out _).trans (hHeld.2.2.2.2.1)))))), ((cell_far (p := ⟨gb378, _, none⟩) NB370_378.out _).trans (((cell_far (p := ⟨gb378, _, none⟩) NB370_378.out _).trans (((cell_far (p := ⟨gb378, _, none⟩) NB370_378.out _).trans (hHeld.2.2.2.2.2))))))⟩ (fun hHeld => ?_)
  clear hK K
  refine done_ (done_of HT_.out (by kernel_rfl)) ?_
  have hnb21 := NB377_369.out
  have hnc21 := NB369_377.out
  have hnb22 := NB377_370.out
  have hnc22 := NB370_377.out
  have hnb23 := NB377_378.out
  have hnc23 := NB378_377.out
  have hcz24_0 : w14.cell? ⟨gb377, 0, none⟩ = some (.int .i8 0) := (blk_cell BK377.out 0).trans rfl
  have hcz24_1 : w14.cell? ⟨gb377, 1, none⟩ = some (.int .i8 0) := (blk_cell BK377.out 1).trans rfl
  have hcz24_2 : w14.cell? ⟨gb377, 2, none⟩ = some (.int .i8 0) := (blk_cell BK377.out 2).trans rfl
  have hfz24_0 := blk_frozen BK377.out 0
  have hfz24_1 := blk_frozen BK377.out 1
  have hfz24_2 := blk_frozen BK377.out 2
  have hnb25 := NB378_369.out
  have hnc25 := NB369_378.out
  have hnb26 := NB378_370.out
  have hnc26 := NB370_378.out
  have hcz27_0 : w14.cell? ⟨gb378, 0, none⟩ = some (.int .i8 0) := (blk_cell BK378.out 0).trans rfl
  have hcz27_1 : w14.cell? ⟨gb378, 1, none⟩ = some (.int .i8 0) := (blk_cell BK378.out 1).trans rfl
  have hcz27_2 : w14.cell? ⟨gb378, 2, none⟩ = some (.int .i8 0) := (blk_cell BK378.out 2).trans rfl
  have hfz27_0 := blk_frozen BK378.out 0
  have hfz27_1 := blk_frozen BK378.out 1
  have hfz27_2 := blk_frozen BK378.out 2
  have H := HLATE.out
  clear HLATE
  by_cases c5 : t371 < t374
  rotate_left
  · rw [if_neg c5] at H
    have c5b0 : decide (t371 < t374) = false := decide_eq_false c5
    clear c5
    obtain rfl := Option.some.inj H
    try go_wp2
    go_ret
    exact ⟨by first | rfl | (simp [errW_none, errW_some] <;> rfl) | (simp [*, errW_none, errW_some] <;> rfl), by repeat (first | (with_reducible first | exact HB.out | apply below_alloc | apply pw_below_drewN | apply below_drew1 | refine below_set ?_ GE369.out | refine below_set ?_ GE370.out | refine below_set ?_ GE377.out | refine below_set ?_ GE378.out) | exact HB.out)⟩
  rw [if_pos c5] at H
  have c5b0 : decide (t371 < t374) = true := decide_eq_true c5
  clear c5
  by_cases c6 : t372 < t375
  rotate_left
  · rw [if_neg c6] at H
    have c6b0 : decide (t372 < t375) = false := decide_eq_false c6
    clear c6
    obtain rfl := Option.some.inj H
    try go_wp2
    go_ret
    exact ⟨by first | rfl | (simp [errW_none, errW_some] <;> rfl) | (simp [*, errW_none, errW_some] <;> rfl), by repeat (first | (with_reducible first | exact HB.out | apply below_alloc | apply pw_below_drewN | apply below_drew1 | refine below_set ?_ GE369.out | refine below_set ?_ GE370.out | refine below_set ?_ GE377.out | refine below_set ?_ GE378.out) | exact HB.out)⟩
  rw [if_pos c6] at H
  have c6b0 : decide (t372 < t375) = true := decide_eq_true c6
  clear c6
  obtain rfl := Option.some.inj H
  try go_wp2
  go_ret
  exact ⟨by first | rfl | (simp [errW_none, errW_some] <;> rfl) | (simp [*, errW_none, errW_some] <;> rfl), by repeat (first | (with_reducible first | exact HB.out | apply below_alloc | apply pw_below_drewN | apply below_drew1 | refine below_set ?_ GE369.out | refine below_set ?_ GE370.out | refine below_set ?_ GE377.out | refine below_set ?_ GE378.out) | exact HB.out)⟩
end Go.Proofs.Ytipdmnibjkdpcaa.P

namespace Go.Proofs.Ytipdmnibjkdpcaa.P
open Go.RowKit Go.Proofs.YtipdmnibjkdpcaaW.PrintWords Go.Proofs.YtipdmnibjkdpcaaW.PrintLast Go.Proofs.YtipdmnibjkdpcaaW.PrintMore
attribute [local go_sem] max2_int min2_int max_two min_two max_three min_three max_four min_four
set_option linter.unusedVariables false
set_option linter.unusedSimpArgs false
def impl_nested.f (k : Nat) (a0_0 : Int) (a0_1 : Int) (a0_2 : Int) (a1_0 : Int) (a1_1 : Int) (a1_2 : Int) : Option (Bool) := (impl_Box_inside.f k a0_0 a0_1 a0_2 a1_0 a1_1 a1_2).bind fun t381 => (if t381 = true then (some true) else ((impl_Box_inside.f k a1_0 a1_1 a1_2 a0_0 a0_1 a0_2).bind fun t382 => (some t382)))
theorem impl_nested.mono : ∀ a0 a1 a2 a3 a4 a5 k, LeO (impl_nested.f k a0 a1 a2 a3 a4 a5) (impl_nested.f (k + 1) a0 a1 a2 a3 a4 a5) := by
  intro a0 a1 a2 a3 a4 a5 k
  unfold impl_nested.f
  repeat' first
      | (with_reducible exact impl_Box_inside.mono _ _ _ _ _ _ _)
      | (with_reducible exact LeO.refl _)
      | (with_reducible exact LeO.none _)
      | (with_reducible refine LeO.ite ?_ ?_)
      | (with_reducible refine LeO.bind ?_ (fun _ => ?_))
      | exact impl_Box_inside.mono _ _ _ _ _ _ _
      | exact LeO.none _
      | refine LeO.ite ?_ ?_
      | refine LeO.bind ?_ (fun _ => ?_)
set_option maxHeartbeats 8000000 in
set_option maxRecDepth 100000 in
theorem impl_nested.calls (k : Nat) (a0_0 : Int) (a0_1 : Int) (a0_2 : Int) (a1_0 : Int) (a1_1 : Int) (a1_2 : Int) (r : Bool) (w : World) (h : impl_nested.f k a0_0 a0_1 a0_2 a1_0 a1_1 a1_2 = some r) :
    Calls Try.prog 48 #[.agg #[.int .i8 a0_0, .int .i8 a0_1, .int .i8 a0_2], .agg #[.int .i8 a1_0, .int .i8 a1_1, .int .i8 a1_2]] w fun e w' => e = .returned (.bool r) ∧ Below w.heap.size w w' := by
  have hu64 := Try.underlying64
  have HB := Aside0.mk (Below.refl w.heap.size w)
  have H : ((impl_Box_inside.f k a0_0 a0_1 a0_2 a1_0 a1_1 a1_2).bind fun t381 => (if t381 = true then (some true) else ((impl_Box_inside.f k a1_0 a1_1 a1_2 a0_0 a0_1 a0_2).bind fun t382 => (some t382)))) = some r := h
  clear h
  replace H := Option.bind_eq_some_iff.mp H
  obtain ⟨t381, A30, H⟩ := H
  replace H : (if t381 = true then (some true) else ((impl_Box_inside.f k a1_0 a1_1 a1_2 a0_0 a0_1 a0_2).bind fun t382 => (some t382))) = some r := H
  have A3 := Aside0.mk A30
  clear A30
  by_cases c4 : t381 = true
  rotate_left
  · replace c4 := Bool.eq_false_iff.mpr c4
    subst c4
    have H1 : ((impl_Box_inside.f k a1_0 a1_1 a1_2 a0_0 a0_1 a0_2).bind fun t382 => (some t382)) = some r := by rw [if_neg (show ¬ (false = true) by decide)] at H; exact H
    clear H
    have H := H1
    clear H1
    replace H := Option.bind_eq_some_iff.mp H
    obtain ⟨t382, A110, H⟩ := H
    replace H : (some t382) = some r := H
    have A11 := Aside0.mk A110
    clear A110
    obtain rfl := Option.some.inj H
    go_enter Try.func48, Try.ntmps48
    go_wp2_with (first | ((with_reducible refine gate_dst (N := 2) rfl ?_); refine box_event ?hg (N := 2) ?hd (cs := #[.int .i8 a0_0, .int .i8 a0_1, .int .i8 a0_2]) (t := 64) ?hr ?_; (case hd => rfl); (case hg => rfl); (case hr => first | (go_simp; done) | (go_simp; rfl)); intro gb379 hg w12 hbox hb; have n0_ := Aside0.mk (below_step (by repeat (first | (with_reducible first | exact HB.out | apply below_alloc | apply pw_below_drewN | apply below_drew1) | exact HB.out)) hb); have n1_ := Aside0.mk (hbox); have n2_ := Aside0.mk ((by rw [hg]; exact (below_size (by repeat (first | (with_reducible first | exact HB.out | apply below_alloc | apply pw_below_drewN | apply below_drew1) | exact HB.out))) : w.heap.size ≤ gb379)); have n3_ := Aside0.mk ((by rw [hg]; exact (below_size (by repeat (first | (with_reducible first | exact HB.out | apply below_alloc | apply pw_below_drewN | apply below_drew1) | exact HB.out))) : w.heap.size ≤ gb379)); clear HB; have HB := n0_; have BK379 := n1_; have GW379 := n2_; have GE379 := n3_; clear n0_ n1_ n2_ n3_; clear hb hbox hg) | ((with_reducible refine gate_dst (N := 3) rfl ?_); refine box_event ?hg (N := 3) ?hd (cs := #[.int .i8 a1_0, .int .i8 a1_1, .int .i8 a1_2]) (t := 64) ?hr ?_; (case hd => rfl); (case hg => rfl); (case hr => first | (go_simp; done) | (go_simp; rfl)); intro gb380 hg w13 hbox hb; have n0_ := Aside0.mk (blk_below (g := gb379) (o := .cells #[.int .i8 a0_0, .int .i8 a0_1, .int .i8 a0_2] 64 (0, 0)) (by (with_reducible repeat (first | refine blk_drewN ?_ _ | refine blk_drew ?_ | refine blk_alloc ?_ _)); exact BK379.out) hb); have n1_ := Aside0.mk (below_step (by repeat (first | (with_reducible first | exact HB.out | apply below_alloc | apply pw_below_drewN | apply below_drew1 | refine below_set ?_ GE379.out) | exact HB.out)) hb); have n2_ := Aside0.mk (hbox); have n3_ := Aside0.mk ((by rw [hg]; exact (below_size (by repeat (first | (with_reducible first | exact HB.out | apply below_alloc | apply pw_below_drewN | apply below_drew1 | refine below_set ?_ GE379.out) | exact HB.out))) : w.heap.size ≤ gb380)); have n4_ := Aside0.mk ((by rw [hg]; exact (below_size (by repeat (first | (with_reducible first | exact HB.out | apply below_alloc | apply pw_below_drewN | apply below_drew1 | refine below_set ?_ GE379.out) | exact HB.out))) : w.heap.size ≤ gb380)); have n5_ := Aside0.mk ((by rw [hg]; exact Nat.ne_of_lt (blk_lt (g := gb379) (o := .cells #[.int .i8 a0_0, .int .i8 a0_1, .int .i8 a0_2] 64 (0, 0)) (by (with_reducible repeat (first | refine blk_drewN ?_ _ | refine blk_drew ?_ | refine blk_alloc ?_ _)); exact BK379.out)) : gb379 ≠ gb380)); have n6_ := Aside0.mk ((by rw [hg]; exact Nat.ne_of_gt (blk_lt (g := gb379) (o := .cells #[.int .i8 a0_0, .int .i8 a0_1, .int .i8 a0_2] 64 (0, 0)) (by (with_reducible repeat (first | refine blk_drewN ?_ _ | refine blk_drew ?_ | refine blk_alloc ?_ _)); exact BK379.out)) : gb380 ≠ gb379)); clear BK379; clear HB; have BK379 := n0_; have HB := n1_; have BK380 := n2_; have GW380 := n3_; have GE380 := n4_; have NB379_380 := n5_; have NB380_379 := n6_; clear n0_ n1_ n2_ n3_ n4_ n5_ n6_; clear hb hbox hg; have hnb14 := NB379_380.out; have hnc14 := NB380_379.out; have hcz15_0 : w13.cell? ⟨gb379, 0, none⟩ = some (.int .i8 a0_0) := (blk_cell BK379.out 0).trans rfl; have hcz15_1 : w13.cell? ⟨gb379, 1, none⟩ = some (.int .i8 a0_1) := (blk_cell BK379.out 1).trans rfl; have hcz15_2 : w13.cell? ⟨gb379, 2, none⟩ = some (.int .i8 a0_2) := (blk_cell BK379.out 2).trans rfl; have hfz15_0 := blk_frozen BK379.out 0; have hfz15_1 := blk_frozen BK379.out 1; have hfz15_2 := blk_frozen BK379.out 2; have hcz16_0 : w13.cell? ⟨gb380, 0, none⟩ = some (.int .i8 a1_0) := (blk_cell BK380.out 0).trans rfl; have hcz16_1 : w13.cell? ⟨gb380, 1, none⟩ = some (.int .i8 a1_1) := (blk_cell BK380.out 1).trans rfl; have hcz16_2 : w13.cell? ⟨gb380, 2, none⟩ = some (.int .i8 a1_2) := (blk_cell BK380.out 2).trans rfl; have hfz16_0 := blk_frozen BK380.out 0; have hfz16_1 := blk_frozen BK380.out 1; have hfz16_2 := blk_frozen BK380.out 2) | ((with_reducible refine gate_callee (f := 42) rfl ?_); refine goesL_ (some 7) rfl rfl Try.func42 (by kernel_rfl) rfl #[.agg #[.int .i8 a0_0, .int .i8 a0_1, .int .i8 a0_2], .agg #[.int .i8 a1_0, .int .i8 a1_1, .int .i8 a1_2]] rfl (by (try simp only [List.map_toArray, List.map_cons, List.map_nil]); first | done | rfl | (simp only [List.length_drop, List.length_take]; rfl)) ?_; (with_reducible refine (impl_Box_inside.calls k a0_0 a0_1 a0_2 a1_0 a1_1 a1_2 false _ A3.out).mono ?_); rintro e w17 ⟨rfl, hb⟩; refine ⟨_, rfl, ?_⟩; have n0_ := Aside0.mk (blk_below (g := gb379) (o := .cells #[.int .i8 a0_0, .int .i8 a0_1, .int .i8 a0_2] 64 (0, 0)) (by (with_reducible repeat (first | refine blk_drewN ?_ _ | refine blk_drew ?_ | refine blk_alloc ?_ _)); exact BK379.out) hb); have n1_ := Aside0.mk (blk_below (g := gb380) (o := .cells #[.int .i8 a1_0, .int .i8 a1_1, .int .i8 a1_2] 64 (0, 0)) (by (with_reducible repeat (first | refine blk_drewN ?_ _ | refine blk_drew ?_ | refine blk_alloc ?_ _)); exact BK380.out) hb); have n2_ := Aside0.mk (below_step (by repeat (first | (with_reducible first | exact HB.out | apply below_alloc | apply pw_below_drewN | apply below_drew1 | refine below_set ?_ GE379.out | refine below_set ?_ GE380.out) | exact HB.out)) hb); clear BK379; clear BK380; clear HB; have BK379 := n0_; have BK380 := n1_; have HB := n2_; clear n0_ n1_ n2_; (try clear hb); (try clear hb2); (try clear hk); (try clear hi); have hcz18_0 : w17.cell? ⟨gb380, 0, none⟩ = some (.int .i8 a1_0) := (blk_cell BK380.out 0).trans rfl; have hcz18_1 : w17.cell? ⟨gb380, 1, none⟩ = some (.int .i8 a1_1) := (blk_cell BK380.out 1).trans rfl; have hcz18_2 : w17.cell? ⟨gb380, 2, none⟩ = some (.int .i8 a1_2) := (blk_cell BK380.out 2).trans rfl; have hfz18_0 := blk_frozen BK380.out 0; have hfz18_1 := blk_frozen BK380.out 1; have hfz18_2 := blk_frozen BK380.out 2; have hcz19_0 : w17.cell? ⟨gb379, 0, none⟩ = some (.int .i8 a0_0) := (blk_cell BK379.out 0).trans rfl; have hcz19_1 : w17.cell? ⟨gb379, 1, none⟩ = some (.int .i8 a0_1) := (blk_cell BK379.out 1).trans rfl; have hcz19_2 : w17.cell? ⟨gb379, 2, none⟩ = some (.int .i8 a0_2) := (blk_cell BK379.out 2).trans rfl; have hfz19_0 := blk_frozen BK379.out 0; have hfz19_1 := blk_frozen BK379.out 1; have hfz19_2 := blk_frozen BK379.out 2) | (go_at_call 42; (with_reducible refine (impl_Box_inside.calls k a1_0 a1_1 a1_2 a0_0 a0_1 a0_2 t382 _ A11.out).mono ?_); rintro e w20 ⟨rfl, hb⟩; have n0_ := Aside0.mk (blk_below (g := gb379) (o := .cells #[.int .i8 a0_0, .int .i8 a0_1, .int .i8 a0_2] 64 (0, 0)) (by (with_reducible repeat (first | refine blk_drewN ?_ _ | refine blk_drew ?_ | refine blk_alloc ?_ _)); exact BK379.out) hb); have n1_ := Aside0.mk (blk_below (g := gb380) (o := .cells #[.int .i8 a1_0, .int .i8 a1_1, .int .i8 a1_2] 64 (0, 0)) (by (with_reducible repeat (first | refine blk_drewN ?_ _ | refine blk_drew ?_ | refine blk_alloc ?_ _)); exact BK380.out) hb); have n2_ := Aside0.mk (below_step (by repeat (first | (with_reducible first | exact HB.out | apply below_alloc | apply pw_below_drewN | apply below_drew1 | refine below_set ?_ GE379.out | refine below_set ?_ GE380.out) | exact HB.out)) hb); clear BK379; clear BK380; clear HB; have BK379 := n0_; have BK380 := n1_; have HB := n2_; clear n0_ n1_ n2_; (try clear hb); (try clear hb2); (try clear hk); (try clear hi)))
    go_ret
    exact ⟨by first | rfl | (simp [errW_none, errW_some] <;> rfl) | (simp [*, errW_none, errW_some] <;> rfl), by repeat (first | (with_reducible first | exact HB.out | apply below_alloc | apply pw_below_drewN | apply below_drew1 | refine below_set ?_ GE379.out | refine below_set ?_ GE380.out) | exact HB.out)⟩
  subst c4
  have H1 : (some true) = some r := by rw [if_pos rfl] at H; exact H
  clear H
  have H := H1
  clear H1
  obtain rfl := Option.some.inj H
  go_enter Try.func48, Try.ntmps48
  go_wp2_with (first | ((with_reducible refine gate_dst (N := 2) rfl ?_); refine box_event ?hg (N := 2) ?hd (cs := #[.int .i8 a0_0, .int .i8 a0_1, .int .i8 a0_2]) (t := 64) ?hr ?_; (case hd => rfl); (case hg => rfl); (case hr => first | (go_simp; done) | (go_simp; rfl)); intro gb379 hg w5 hbox hb; have n0_ := Aside0.mk (below_step (by repeat (first | (with_reducible first | exact HB.out | apply below_alloc | apply pw_below_drewN | apply below_drew1) | exact HB.out)) hb); have n1_ := Aside0.mk (hbox); have n2_ := Aside0.mk ((by rw [hg]; exact (below_size (by repeat (first | (with_reducible first | exact HB.out | apply below_alloc | apply pw_below_drewN | apply below_drew1) | exact HB.out))) : w.heap.size ≤ gb379)); have n3_ := Aside0.mk ((by rw [hg]; exact (below_size (by repeat (first | (with_reducible first | exact HB.out | apply below_alloc | apply pw_below_drewN | apply below_drew1) | exact HB.out))) : w.heap.size ≤ gb379)); clear HB; have HB := n0_; have BK379 := n1_; have GW379 := n2_; have GE379 := n3_; clear n0_ n1_ n2_ n3_; clear hb hbox hg) | ((with_reducible refine gate_dst (N := 3) rfl ?_); refine box_event ?hg (N := 3) ?hd (cs := #[.int .i8 a1_0, .int .i8 a1_1, .int .i8 a1_2]) (t := 64) ?hr ?_; (case hd => rfl); (case hg => rfl); (case hr => first | (go_simp; done) | (go_simp; rfl)); intro gb380 hg w6 hbox hb; have n0_ := Aside0.mk (blk_below (g := gb379) (o := .cells #[.int .i8 a0_0, .int .i8 a0_1, .int .i8 a0_2] 64 (0, 0)) (by (with_reducible repeat (first | refine blk_drewN ?_ _ | refine blk_drew ?_ | refine blk_alloc ?_ _)); exact BK379.out) hb); have n1_ := Aside0.mk (below_step (by repeat (first | (with_reducible first | exact HB.out | apply below_alloc | apply pw_below_drewN | apply below_drew1 | refine below_set ?_ GE379.out) | exact HB.out)) hb); have n2_ := Aside0.mk (hbox); have n3_ := Aside0.mk ((by rw [hg]; exact (below_size (by repeat (first | (with_reducible first | exact HB.out | apply below_alloc | apply pw_below_drewN | apply below_drew1 | refine below_set ?_ GE379.out) | exact HB.out))) : w.heap.size ≤ gb380)); have n4_ := Aside0.mk ((by rw [hg]; exact (below_size (by repeat (first | (with_reducible first | exact HB.out | apply below_alloc | apply pw_below_drewN | apply below_drew1 | refine below_set ?_ GE379.out) | exact HB.out))) : w.heap.size ≤ gb380)); have n5_ := Aside0.mk ((by rw [hg]; exact Nat.ne_of_lt (blk_lt (g := gb379) (o := .cells #[.int .i8 a0_0, .int .i8 a0_1, .int .i8 a0_2] 64 (0, 0)) (by (with_reducible repeat (first | refine blk_drewN ?_ _ | refine blk_drew ?_ | refine blk_alloc ?_ _)); exact BK379.out)) : gb379 ≠ gb380)); have n6_ := Aside0.mk ((by rw [hg]; exact Nat.ne_of_gt (blk_lt (g := gb379) (o := .cells #[.int .i8 a0_0, .int .i8 a0_1, .int .i8 a0_2] 64 (0, 0)) (by (with_reducible repeat (first | refine blk_drewN ?_ _ | refine blk_drew ?_ | refine blk_alloc ?_ _)); exact BK379.out)) : gb380 ≠ gb379)); clear BK379; clear HB; have BK379 := n0_; have HB := n1_; have BK380 := n2_; have GW380 := n3_; have GE380 := n4_; have NB379_380 := n5_; have NB380_379 := n6_; clear n0_ n1_ n2_ n3_ n4_ n5_ n6_; clear hb hbox hg; have hnb7 := NB379_380.out; have hnc7 := NB380_379.out; have hcz8_0 : w6.cell? ⟨gb379, 0, none⟩ = some (.int .i8 a0_0) := (blk_cell BK379.out 0).trans rfl; have hcz8_1 : w6.cell? ⟨gb379, 1, none⟩ = some (.int .i8 a0_1) := (blk_cell BK379.out 1).trans rfl; have hcz8_2 : w6.cell? ⟨gb379, 2, none⟩ = some (.int .i8 a0_2) := (blk_cell BK379.out 2).trans rfl; have hfz8_0 := blk_frozen BK379.out 0; have hfz8_1 := blk_frozen BK379.out 1; have hfz8_2 := blk_frozen BK379.out 2; have hcz9_0 : w6.cell? ⟨gb380, 0, none⟩ = some (.int .i8 a1_0) := (blk_cell BK380.out 0).trans rfl; have hcz9_1 : w6.cell? ⟨gb380, 1, none⟩ = some (.int .i8 a1_1) := (blk_cell BK380.out 1).trans rfl; have hcz9_2 : w6.cell? ⟨gb380, 2, none⟩ = some (.int .i8 a1_2) := (blk_cell BK380.out 2).trans rfl; have hfz9_0 := blk_frozen BK380.out 0; have hfz9_1 := blk_frozen BK380.out 1; have hfz9_2 := blk_frozen BK380.out 2) | ((with_reducible refine gate_callee (f := 42) rfl ?_); refine goesL_ (some 7) rfl rfl Try.func42 (by kernel_rfl) rfl #[.agg #[.int .i8 a0_0, .int .i8 a0_1, .int .i8 a0_2], .agg #[.int .i8 a1_0, .int .i8 a1_1, .int .i8 a1_2]] rfl (by (try simp only [List.map_toArray, List.map_cons, List.map_nil]); first | done | rfl | (simp only [List.length_drop, List.length_take]; rfl)) ?_; (with_reducible refine (impl_Box_inside.calls k a0_0 a0_1 a0_2 a1_0 a1_1 a1_2 true _ A3.out).mono ?_); rintro e w10 ⟨rfl, hb⟩; refine ⟨_, rfl, ?_⟩; have n0_ := Aside0.mk (blk_below (g := gb379) (o := .cells #[.int .i8 a0_0, .int .i8 a0_1, .int .i8 a0_2] 64 (0, 0)) (by (with_reducible repeat (first | refine blk_drewN ?_ _ | refine blk_drew ?_ | refine blk_alloc ?_ _)); exact BK379.out) hb); have n1_ := Aside0.mk (blk_below (g := gb380) (o := .cells #[.int .i8 a1_0, .int .i8 a1_1, .int .i8 a1_2] 64 (0, 0)) (by (with_reducible repeat (first | refine blk_drewN ?_ _ | refine blk_drew ?_ | refine blk_alloc ?_ _)); exact BK380.out) hb); have n2_ := Aside0.mk (below_step (by repeat (first | (with_reducible first | exact HB.out | apply below_alloc | apply pw_below_drewN | apply below_drew1 | refine below_set ?_ GE379.out | refine below_set ?_ GE380.out) | exact HB.out)) hb); clear BK379; clear BK380; clear HB; have BK379 := n0_; have BK380 := n1_; have HB := n2_; clear n0_ n1_ n2_; (try clear hb); (try clear hb2); (try clear hk); (try clear hi)))
  go_ret
  exact ⟨by first | rfl | (simp [errW_none, errW_some] <;> rfl) | (simp [*, errW_none, errW_some] <;> rfl), by repeat (first | (with_reducible first | exact HB.out | apply below_alloc | apply pw_below_drewN | apply below_drew1 | refine below_set ?_ GE379.out | refine below_set ?_ GE380.out) | exact HB.out)⟩
end Go.Proofs.Ytipdmnibjkdpcaa.P

namespace Go.Proofs.Ytipdmnibjkdpcaa.P
open Go.RowKit Go.Proofs.YtipdmnibjkdpcaaW.PrintWords Go.Proofs.YtipdmnibjkdpcaaW.PrintLast Go.Proofs.YtipdmnibjkdpcaaW.PrintMore
attribute [local go_sem] max2_int min2_int max_two min_two max_three min_three max_four min_four
set_option linter.unusedVariables false
set_option linter.unusedSimpArgs false
mutual
def impl_LargestApart_1.l0 : Nat → List Int → List (S64) → List Int → Int → Int → Option (Bool)
  | 0, _, _, _, _, _ => none
  | k + 1, x0, x1, x8, x9, x10 => if x10 < x9 then (if 0 ≤ x10 then (if x10 < (x8.length : Int) then (if x10 ≤ (x0.length : Int) then (impl_LargestApart_1.l1 k x0 x1 (rd x8 x10) x8 x9 x10 (x0.take (x10 : Int).toNat) ((x0.take (x10 : Int).toNat).length : Int) 0) else (none)) else (none)) else (none)) else (some true)
def impl_LargestApart_1.l1 : Nat → List Int → List (S64) → Int → List Int → Int → Int → List Int → Int → Int → Option (Bool)
  | 0, _, _, _, _, _, _, _, _, _ => none
  | k + 1, x0, x1, x5, x8, x9, x10, x17, x18, x19 => if x19 < x18 then (if 0 ≤ x19 then (if x19 < (x17.length : Int) then (if 0 ≤ x5 then (if x5 < (x1.length : Int) then (if 0 ≤ (rd x17 x19) then (if (rd x17 x19) < (x1.length : Int) then ((impl_nested.f k ((rd_T64 x1 x5).f0) ((rd_T64 x1 x5).f1) ((rd_T64 x1 x5).f2) ((rd_T64 x1 (rd x17 x19)).f0) ((rd_T64 x1 (rd x17 x19)).f1) ((rd_T64 x1 (rd x17 x19)).f2)).bind fun t451 => (if t451 = true then (some false) else (impl_LargestApart_1.l1 k x0 x1 x5 x8 x9 x10 x17 x18 (wrap64 (x19 + 1))))) else (none)) else (none)) else (none)) else (none)) else (none)) else (none)) else (impl_LargestApart_1.l0 k x0 x1 x8 x9 (wrap64 (x10 + 1)))
end
def impl_LargestApart_1.f (k : Nat) (l0 : List Int) (l1 : List (S64)) : Option (Bool) := impl_LargestApart_1.l0 k l0 l1 l0 (l0.length : Int) 0
theorem impl_LargestApart_1.mono_l : ∀ k, (∀ y0 y1 y2 y3 y4, LeO (impl_LargestApart_1.l0 k y0 y1 y2 y3 y4) (impl_LargestApart_1.l0 (k + 1) y0 y1 y2 y3 y4)) ∧ (∀ y0 y1 y2 y3 y4 y5 y6 y7 y8, LeO (impl_LargestApart_1.l1 k y0 y1 y2 y3 y4 y5 y6 y7 y8) (impl_LargestApart_1.l1 (k + 1) y0 y1 y2 y3 y4 y5 y6 y7 y8))
  | 0 => ⟨fun _ _ _ _ _ r h => by simp [impl_LargestApart_1.l0] at h, fun _ _ _ _ _ _ _ _ _ r h => by simp [impl_LargestApart_1.l1] at h⟩
  | k + 1 => by
    obtain ⟨ih0, ih1⟩ := impl_LargestApart_1.mono_l k
    refine ⟨?_, ?_⟩
    · intro y0 y1 y2 y3 y4
      unfold impl_LargestApart_1.l0
      repeat' first
      | (with_reducible exact ih0 _ _ _ _ _)
      | (with_reducible exact ih1 _ _ _ _ _ _ _ _ _)
      | (with_reducible exact impl_nested.mono _ _ _ _ _ _ _)
      | (with_reducible exact LeO.refl _)
      | (with_reducible exact LeO.none _)
      | (with_reducible refine LeO.ite ?_ ?_)
      | (with_reducible refine LeO.bind ?_ (fun _ => ?_))
      | exact ih0 _ _ _ _ _
      | exact ih1 _ _ _ _ _ _ _ _ _
      | exact impl_nested.mono _ _ _ _ _ _ _
      | exact LeO.none _
      | refine LeO.ite ?_ ?_
      | refine LeO.bind ?_ (fun _ => ?_)
    · intro y0 y1 y2 y3 y4 y5 y6 y7 y8
      unfold impl_LargestApart_1.l1
      repeat' first
      | (with_reducible exact ih0 _ _ _ _ _)
      | (with_reducible exact ih1 _ _ _ _ _ _ _ _ _)
      | (with_reducible exact impl_nested.mono _ _ _ _ _ _ _)
      | (with_reducible exact LeO.refl _)
      | (with_reducible exact LeO.none _)
      | (with_reducible refine LeO.ite ?_ ?_)
      | (with_reducible refine LeO.bind ?_ (fun _ => ?_))
      | exact ih0 _ _ _ _ _
      | exact ih1 _ _ _ _ _ _ _ _ _
      | exact impl_nested.mono _ _ _ _ _ _ _
      | exact LeO.none _
      | refine LeO.ite ?_ ?_
      | refine LeO.bind ?_ (fun _ => ?_)
theorem impl_LargestApart_1.mono : ∀ a0 a1 k, LeO (impl_LargestApart_1.f k a0 a1) (impl_LargestApart_1.f (k + 1) a0 a1) := by
  intro a0 a1 k
  obtain ⟨ih0, ih1⟩ := impl_LargestApart_1.mono_l k
  unfold impl_LargestApart_1.f
  repeat' first
      | (with_reducible exact ih0 _ _ _ _ _)
      | (with_reducible exact ih1 _ _ _ _ _ _ _ _ _)
      | (with_reducible exact impl_nested.mono _ _ _ _ _ _ _)
      | (with_reducible exact LeO.refl _)
      | (with_reducible exact LeO.none _)
      | (with_reducible refine LeO.ite ?_ ?_)
      | (with_reducible refine LeO.bind ?_ (fun _ => ?_))
      | exact ih0 _ _ _ _ _
      | exact ih1 _ _ _ _ _ _ _ _ _
      | exact impl_nested.mono _ _ _ _ _ _ _
      | exact LeO.none _
      | refine LeO.ite ?_ ?_
      | refine LeO.bind ?_ (fun _ => ?_)
def impl_LargestApart_1.T7 : Bool × List (List Nat × List Nat) := (true, [([], []), ([], []), ([0, 1], [0, 1]), ([2], [2]), ([], []), ([], []), ([4, 5], [4, 5]), ([6], [6]), ([3, 7], [3, 7])])
def impl_LargestApart_1.B7 : List Nat := [0, 0, 3, 7, 0, 0, 48, 112, 255]
theorem impl_LargestApart_1.tab7 : rtab .any (opsOf Try.f47 7) = impl_LargestApart_1.T7 := by kernel_rfl
theorem impl_LargestApart_1.bits7 : waitsOk impl_LargestApart_1.T7.2 impl_LargestApart_1.B7 = true := by kernel_rfl
set_option maxHeartbeats 8000000 in
set_option maxRecDepth 100000 in
theorem impl_LargestApart_1.calls (k : Nat) (A0 : Option Addr) (c0 : Nat) (l0 : List Int) (A1 : Option Addr) (c1 : Nat) (l1 : List (S64)) (r : Bool) (w : World) (b1 : Nat) (hb1 : w.cell? ⟨b1, 0, none⟩ = some (.slice A1 l1.length c1)) (hr0 : Kd.C (Kd.int .i64) w A0 l0.length l0) (hc0 : l0.length ≤ c0) (hr1 : Kd.C k64 w A1 l1.length l1) (hc1 : l1.length ≤ c1) (h : impl_LargestApart_1.f k l0 l1 = some r) :
    Calls Try.prog 47 #[.slice A0 l0.length c0, .pointer (some ⟨b1, 0, none⟩)] w fun e w' => e = .returned (.bool r) ∧ Below w.heap.size w w' := by
  have hu64 := Try.underlying64
  have HR0 := Aside0.mk hr0
  have HC0 := Aside0.mk hc0
  clear hr0 hc0
  have HR1 := Aside0.mk hr1
  have HC1 := Aside0.mk hc1
  clear hr1 hc1
  have HB := Aside0.mk (Below.refl w.heap.size w)
  have HX1 := Aside0.mk hb1
  clear hb1
  have H : (impl_LargestApart_1.l0 k l0 l1 l0 (l0.length : Int) 0) = some r := h
  clear h
  have H' := Aside0.mk H
  clear H
  go_enter Try.func47, Try.ntmps47
  go_wp2
  go_loopg [10] k (fun kq v10 w' => ∃ (x10_1 : Int), v10 = .int .i64 x10_1 ∧ Aside0 (impl_LargestApart_1.l0 kq l0 l1 l0 (l0.length : Int) x10_1 = some r) ∧ Aside0 (kq ≤ k) ∧ Aside0 (Below w.heap.size w w'))
  case atStart => exact ⟨(0), (by first | rfl | (simp; done) | (simp [*]; done)), H', ⟨Nat.le_refl _⟩, ⟨by repeat (first | (with_reducible first | exact HB.out | apply below_alloc | apply pw_below_drewN | apply below_drew1) | exact HB.out)⟩⟩
  case round =>
    clear H'
    try clear c1
    try clear p2
    obtain ⟨x10_1, rfl, HA, HK1, HB⟩ := hrel
    cases gk with
    | zero => exact absurd HA.out (by simp [impl_LargestApart_1.l0])
    | succ k1 =>
      have H := HA.out
      clear HA
      simp only [impl_LargestApart_1.l0] at H
      by_cases c3 : x10_1 < (l0.length : Int)
      rotate_left
      · rw [if_neg c3] at H
        have c3b0 : decide (x10_1 < (l0.length : Int)) = false := decide_eq_false c3
        clear c3
        obtain rfl := Option.some.inj H
        go_wp2
        go_ret
        exact ⟨by first | rfl | (simp [errW_none, errW_some] <;> rfl) | (simp [*, errW_none, errW_some] <;> rfl), by repeat (first | (with_reducible first | exact HB.out | apply below_alloc | apply pw_below_drewN | apply below_drew1) | exact HB.out)⟩
      rw [if_pos c3] at H
      have c3b0 : decide (x10_1 < (l0.length : Int)) = true := decide_eq_true c3
      clear c3
      by_cases c4 : 0 ≤ x10_1
      rotate_left
      · rw [if_neg c4] at H
        exact absurd H (by simp)
      rw [if_pos c4] at H
      have c4b0 : decide (0 ≤ x10_1) = true := decide_eq_true c4
      clear c4
      by_cases c5 : x10_1 < (l0.length : Int)
      rotate_left
      · rw [if_neg c5] at H
        exact absurd H (by simp)
      rw [if_pos c5] at H
      have c5b0 : decide (x10_1 < (l0.length : Int)) = true := decide_eq_true c5
      clear c5
      have c6b0 := eq_true (of_decide_eq_true (by first | (with_reducible assumption) | assumption) : 0 ≤ x10_1)
      by_cases c7 : x10_1 ≤ (l0.length : Int)
      rotate_left
      · rw [if_neg c7] at H
        exact absurd H (by simp)
      rw [if_pos c7] at H
      have c7b0 := eq_true c7
      have c7b1 : decide (x10_1 ≤ (l0.length : Int)) = true := decide_eq_true c7
      clear c7
      have H' := Aside0.mk H
      clear H
      have p446 : 0 ≤ (x10_1 : Int) := of_decide_eq_true (by first | (with_reducible assumption) | assumption)
      have q446 : x10_1 < (l0.length : Int) := of_decide_eq_true (by first | (with_reducible assumption) | assumption)
      obtain ⟨ad446, e446, hx446_0⟩ := Kd.at_int HR0.out x10_1 p446 q446
      cases e446
      replace hx446_0 := (HB.out.cell (World.block_lt_of_cell? w _ hx446_0)).trans hx446_0
      replace p446 := eq_true p446
      replace q446 := eq_true q446
      obtain ⟨i08, hi08, _, hsz8, _⟩ := info_parts info2
      obtain ⟨hcut8, hA8, hC8⟩ := print_take_of (P := Try.prog) (Value.int .i64) 0 22 2 .i64 Try.underlying22 hi08 hsz8 (some ad446) c0 l0 x10_1 (of_decide_eq_true (by first | (with_reducible assumption) | assumption)) (of_decide_eq_true (by first | (with_reducible assumption) | assumption)) HC0.out
      have HR447 := Aside0.mk (Kd.C_of_reads (h1 := fun _ => rfl) (hA8 _ (Kd.reads_of_C HR0.out)))
      have HLEN := Aside0.mk (show ((l0.take (x10_1 : Int).toNat).length : Int) = x10_1 from by (rw [List.length_take]; have h1_ : 0 ≤ x10_1 := of_decide_eq_true (by assumption); have h2_ : x10_1 ≤ (l0.length : Int) := of_decide_eq_true (by assumption); omega))
      have hmx : max x10_1 0 = x10_1 := by (have h1_ : 0 ≤ x10_1 := of_decide_eq_true (by assumption); omega)
      have HC447 := Aside0.mk hC8
      clear hA8 hC8 hi08 hsz8
      go_wp2
      go_loopg [19] k1 (fun kq v19 w' => ∃ (x19_2 : Int), v19 = .int .i64 x19_2 ∧ Aside0 (impl_LargestApart_1.l1 kq l0 l1 (rd l0 x10_1) l0 (l0.length : Int) x10_1 (l0.take (x10_1 : Int).toNat) ((l0.take (x10_1 : Int).toNat).length : Int) x19_2 = some r) ∧ Aside0 (kq ≤ k1) ∧ Aside0 (Below w.heap.size w w'))
      case atStart => exact ⟨(0), (by first | rfl | (simp; done) | (simp [*]; done)), H', ⟨Nat.le_refl _⟩, ⟨by repeat (first | (with_reducible first | exact HB.out | apply below_alloc | apply pw_below_drewN | apply below_drew1) | exact HB.out)⟩⟩
      case round =>
        clear H'
        try clear c1
        try clear p2
        try clear c3
        try clear c3b0
        try clear c4
        try clear c4b0
        try clear p4
        try clear q4
        try clear hx4
        try clear c5
        try clear c5b0
        try clear c6
        try clear c6b0
        try clear c7
        try clear c7b0
        try clear c7b1
        try clear hx446_0
        try clear p2
        try clear p446
        try clear q446
        obtain ⟨x19_2, rfl, HA, HK2, HB⟩ := hrel
        cases gk with
        | zero => exact absurd HA.out (by simp [impl_LargestApart_1.l1])
        | succ k2 =>
          have H := HA.out
          clear HA
          simp only [impl_LargestApart_1.l1] at H
          by_cases c9 : x19_2 < ((l0.take (x10_1 : Int).toNat).length : Int)
          rotate_left
          · rw [if_neg c9] at H
            have c9b0 : decide (x19_2 < ((l0.take (x10_1 : Int).toNat).length : Int)) = false := decide_eq_false c9
            have c9b0m : decide (x19_2 < x10_1) = false := by rw [← HLEN.out]; exact c9b0
            clear c9
            have H' := Aside0.mk H
            clear H
            go_wp2
            go_roundg k2
            case measure => have := HK1.out; have := HK2.out; omega
            case rel => exact ⟨(wrap64 (x10_1 + 1)), (by first | rfl | (simp; done) | (simp [*]; done)), H', ⟨by have := HK1.out; have := HK2.out; omega⟩, ⟨by repeat (first | (with_reducible first | exact HB.out | apply below_alloc | apply pw_below_drewN | apply below_drew1) | exact HB.out)⟩⟩
          rw [if_pos c9] at H
          have c9b0 : decide (x19_2 < ((l0.take (x10_1 : Int).toNat).length : Int)) = true := decide_eq_true c9
          have c9b0m : decide (x19_2 < x10_1) = true := by rw [← HLEN.out]; exact c9b0
          have c9b0n : (x19_2 < x10_1) = True := eq_true (of_decide_eq_true c9b0m)
          clear c9
          by_cases c10 : 0 ≤ x19_2
          rotate_left
          · rw [if_neg c10] at H
            exact absurd H (by simp)
          rw [if_pos c10] at H
          have c10b0 : decide (0 ≤ x19_2) = true := decide_eq_true c10
          clear c10
          by_cases c11 : x19_2 < ((l0.take (x10_1 : Int).toNat).length : Int)
          rotate_left
          · rw [if_neg c11] at H
            exact absurd H (by simp)
          rw [if_pos c11] at H
          have c11b0 : decide (x19_2 < ((l0.take (x10_1 : Int).toNat).length : Int)) = true := decide_eq_true c11
          have c11b0m : decide (x19_2 < x10_1) = true := by rw [← HLEN.out]; exact c11b0
          have c11b0n : (x19_2 < x10_1) = True := eq_true (of_decide_eq_true c11b0m)
          clear c11
          by_cases c12 : 0 ≤ (rd l0 x10_1)
          rotate_left
          · rw [if_neg c12] at H
            exact absurd H (by simp)
          rw [if_pos c12] at H
          have c12b0 : decide (0 ≤ (rd l0 x10_1)) = true := decide_eq_true c12
          clear c12
          by_cases c13 : (rd l0 x10_1) < (l1.length : Int)
          rotate_left
          · rw [if_neg c13] at H
            exact absurd H (by simp)
          rw [if_pos c13] at H
          have c13b0 : decide ((rd l0 x10_1) < (l1.length : Int)) = true := decide_eq_true c13
          clear c13
          by_cases c14 : 0 ≤ (rd (l0.take (x10_1 : Int).toNat) x19_2)
          rotate_left
          · rw [if_neg c14] at H
            exact absurd H (by simp)
          rw [if_pos c14] at H
          have c14b0 : decide (0 ≤ (rd (l0.take (x10_1 : Int).toNat) x19_2)) = true := decide_eq_true c14
          clear c14
          by_cases c15 : (rd (l0.take (x10_1 : Int).toNat) x19_2) < (l1.length : Int)
          rotate_left
          · rw [if_neg c15] at H
            exact absurd H (by simp)
          rw [if_pos c15] at H
          have c15b0 : decide ((rd (l0.take (x10_1 : Int).toNat) x19_2) < (l1.length : Int)) = true := decide_eq_true c15
          clear c15
          replace H := Option.bind_eq_some_iff.mp H
          obtain ⟨t451, A160, H⟩ := H
          replace H : (if t451 = true then (some false) else (impl_LargestApart_1.l1 k2 l0 l1 (rd l0 x10_1) l0 (l0.length : Int) x10_1 (l0.take (x10_1 : Int).toNat) ((l0.take (x10_1 : Int).toNat).length : Int) (wrap64 (x19_2 + 1)))) = some r := H
          have A16 := Aside0.mk A160
          clear A160
          by_cases c17 : t451 = true
          rotate_left
          · replace c17 := Bool.eq_false_iff.mpr c17
            subst c17
            have H1 : (impl_LargestApart_1.l1 k2 l0 l1 (rd l0 x10_1) l0 (l0.length : Int) x10_1 (l0.take (x10_1 : Int).toNat) ((l0.take (x10_1 : Int).toNat).length : Int) (wrap64 (x19_2 + 1))) = some r := by rw [if_neg (show ¬ (false = true) by decide)] at H; exact H
            clear H
            have H := H1
            clear H1
            have H' := Aside0.mk H
            clear H
            have p448 : 0 ≤ (x19_2 : Int) := of_decide_eq_true (by first | (with_reducible assumption) | assumption)
            have q448 : x19_2 < ((l0.take (x10_1 : Int).toNat).length : Int) := of_decide_eq_true (by first | (with_reducible assumption) | assumption)
            obtain ⟨ad448, e448, hx448_0⟩ := Kd.at_int HR447.out x19_2 p448 q448
            obtain rfl : ad446 = ad448 := (by injection e448)
            replace hx448_0 := (HB.out.cell (World.block_lt_of_cell? w _ hx448_0)).trans hx448_0
            replace p448 := eq_true p448
            replace q448 := eq_true q448
            try go_wp2
            have n0_ := Aside0.mk (below_drew1 HB.out)
            clear HB
            have HB := n0_
            clear n0_
            have p449 : 0 ≤ ((rd l0 x10_1) : Int) := of_decide_eq_true (by first | (with_reducible assumption) | assumption)
            have q449 : (rd l0 x10_1) < (l1.length : Int) := of_decide_eq_true (by first | (with_reducible assumption) | assumption)
            obtain ⟨ad449, e449, hx449_0, hx449_1, hx449_2⟩ := at_T64 HR1.out (rd l0 x10_1) p449 q449
            have hw449_2 := hx449_2
            have hw449_1 := hx449_1
            have hw449_0 := hx449_0
            cases e449
            replace hx449_0 := (HB.out.cell (World.block_lt_of_cell? w _ hx449_0)).trans hx449_0
            replace hx449_1 := (HB.out.cell (World.block_lt_of_cell? w _ hx449_1)).trans hx449_1
            replace hx449_2 := (HB.out.cell (World.block_lt_of_cell? w _ hx449_2)).trans hx449_2
            replace p449 := eq_true p449
            replace q449 := eq_true q449
            have p450 : 0 ≤ ((rd (l0.take (x10_1 : Int).toNat) x19_2) : Int) := of_decide_eq_true (by first | (with_reducible assumption) | assumption)
            have q450 : (rd (l0.take (x10_1 : Int).toNat) x19_2) < (l1.length : Int) := of_decide_eq_true (by first | (with_reducible assumption) | assumption)
            obtain ⟨ad450, e450, hx450_0, hx450_1, hx450_2⟩ := at_T64 HR1.out (rd (l0.take (x10_1 : Int).toNat) x19_2) p450 q450
            have hw450_2 := hx450_2
            have hw450_1 := hx450_1
            have hw450_0 := hx450_0
            obtain rfl : ad449 = ad450 := (by injection e450)
            replace hx450_0 := (HB.out.cell (World.block_lt_of_cell? w _ hx450_0)).trans hx450_0
            replace hx450_1 := (HB.out.cell (World.block_lt_of_cell? w _ hx450_1)).trans hx450_1
            replace hx450_2 := (HB.out.cell (World.block_lt_of_cell? w _ hx450_2)).trans hx450_2
            replace p450 := eq_true p450
            replace q450 := eq_true q450
            refine start_ (n := 9) (S := fun w' => w'.cell? ⟨b1, 0, none⟩ = some (.slice (some ad449) l1.length c1) ∧ w'.cell? (ad449.add (((rd l0 x10_1)).toNat * 3)) = some (.int .i8 ((rd_T64 l1 (rd l0 x10_1)).f0)) ∧ w'.cell? ⟨(ad449.add (((rd l0 x10_1)).toNat * 3)).block, (ad449.add (((rd l0 x10_1)).toNat * 3)).off + 1, none⟩ = some (.int .i8 ((rd_T64 l1 (rd l0 x10_1)).f1)) ∧ w'.cell? ⟨(ad449.add (((rd l0 x10_1)).toNat * 3)).block, (ad449.add (((rd l0 x10_1)).toNat * 3)).off + 2, none⟩ = some (.int .i8 ((rd_T64 l1 (rd l0 x10_1)).f2)) ∧ w'.cell? (ad449.add (((rd (l0.take (x10_1 : Int).toNat) x19_2)).toNat * 3)) = some (.int .i8 ((rd_T64 l1 (rd (l0.take (x10_1 : Int).toNat) x19_2)).f0)) ∧ w'.cell? ⟨(ad449.add (((rd (l0.take (x10_1 : Int).toNat) x19_2)).toNat * 3)).block, (ad449.add (((rd (l0.take (x10_1 : Int).toNat) x19_2)).toNat * 3)).off + 1, none⟩ = some (.int .i8 ((rd_T64 l1 (rd (l0.take (x10_1 : Int).toNat) x19_2)).f1)) ∧ w'.cell? ⟨(ad449.add (((rd (l0.take (x10_1 : Int).toNat) x19_2)).toNat * 3)).block, (ad449.add (((rd (l0.take (x10_1 : Int).toNat) x19_2)).toNat * 3)).off + 2, none⟩ = some (.int .i8 ((rd_T64 l1 (rd (l0.take (x10_1 : Int).toNat) x19_2)).f2))) (ds := []) #[false, false, false, false, false, false, false, false, false] (by kernel_rfl) rfl rfl ⟨pw_cell_below HB.out HX1.out, ((HB.out.cell (World.block_lt_of_cell? w _ hw449_0)).trans hw449_0), ((HB.out.cell (World.block_lt_of_cell? w _ hw449_1)).trans hw449_1), ((HB.out.cell (World.block_lt_of_cell? w _ hw449_2)).trans hw449_2), ((HB.out.cell (World.block_lt_of_cell? w _ hw450_0)).trans hw450_0), ((HB.out.cell (World.block_lt_of_cell? w _ hw450_1)).trans hw450_1), ((HB.out.cell (World.block_lt_of_cell? w _ hw450_2)).trans hw450_2)⟩ (fun hHeld => ?_); refine with_tabW impl_LargestApart_1.tab7 impl_LargestApart_1.bits7 (fun HT_ HW_ => ?_)
            generalize wr.drew = w20 at HB hx449_0 hx449_1 hx449_2 hx450_0 hx450_1 hx450_2 hHeld ⊢
            refine take_ (i := 0) (N := some 23) (v := ?_) (a' := ?_) #[true, false, false, false, false, false, false, false, false] rfl rfl (take_ofW HT_.out HW_.out (by kernel_rfl)) (fun _ _ _ h => h) (Or.inl ⟨by rfl, ?_⟩) hHeld ?_ ?_
            rotate_left
            · rintro w' ⟨sb1, _⟩
              go_simp
              with_reducible rfl
            rotate_left
            · simp only [Act.put, List.setIfInBounds_toArray, List.set_cons_zero, List.set_cons_succ, i64_w, i32_w]
              rfl
            refine pure_ (i := 1) (N := some 24) (v := ?_) (a' := ?_) #[true, true, false, false, false, false, false, false, false] rfl rfl (any_of HT_.out (by kernel_rfl)) (fun _ _ _ h => h) (Or.inl ⟨by rfl, ?_⟩) ?_ ?_
            rotate_left
            · intro w'
              go_simp
              with_reducible rfl
            rotate_left
            · simp only [Act.put, List.setIfInBounds_toArray, List.set_cons_zero, List.set_cons_succ, i64_w, i32_w]
              rfl
            refine pure_ (i := 2) (N := some 25) (v := ?_) (a' := ?_) #[true, true, true, false, false, false, false, false, false] rfl rfl (any_of HT_.out (by kernel_rfl)) (fun _ _ _ h => h) (Or.inl ⟨by rfl, ?_⟩) ?_ ?_
            rotate_left
            · intro w'
              go_simp
              with_reducible rfl
            rotate_left
            · simp only [Act.put, List.setIfInBounds_toArray, List.set_cons_zero, List.set_cons_succ, i64_w, i32_w]
              rfl
            refine take_ (i := 4) (N := some 27) (v := ?_) (a' := ?_) #[true, true, true, false, true, false, false, false, false] rfl rfl (take_ofW HT_.out HW_.out (by kernel_rfl)) (fun _ _ _ h => h) (Or.inl ⟨by rfl, ?_⟩) hHeld ?_ ?_
            rotate_left
            · rintro w' ⟨sb1, _⟩
              go_simp
              with_reducible rfl
            rotate_left
            · simp only [Act.put, List.setIfInBounds_toArray, List.set_cons_zero, List.set_cons_succ, i64_w, i32_w]
              rfl
            refine pure_ (i := 5) (N := some 28) (v := ?_) (a' := ?_) #[true, true, true, false, true, true, false, false, false] rfl rfl (any_of HT_.out (by kernel_rfl)) (fun _ _ _ h => h) (Or.inl ⟨by rfl, ?_⟩) ?_ ?_
            rotate_left
            · intro w'
              go_simp
              with_reducible rfl
            rotate_left
            · simp only [Act.put, List.setIfInBounds_toArray, List.set_cons_zero, List.set_cons_succ, i64_w, i32_w]
              rfl
            refine pure_ (i := 6) (N := some 29) (v := ?_) (a' := ?_) #[true, true, true, false, true, true, true, false, false] rfl rfl (any_of HT_.out (by kernel_rfl)) (fun _ _ _ h => h) (Or.inl ⟨by rfl, ?_⟩) ?_ ?_
            rotate_left
            · intro w'
              go_simp
              with_reducible rfl
            rotate_left
            · simp only [Act.put, List.setIfInBounds_toArray, List.set_cons_zero, List.set_cons_succ, i64_w, i32_w]
              rfl
            refine take_ (i := 3) (N := some 26) (v := ?_) (a' := ?_) #[true, true, true, true, true, true, true, false, false] rfl rfl (take_ofW HT_.out HW_.out (by kernel_rfl)) (fun _ _ _ h => h) (Or.inl ⟨by rfl, ?_⟩) hHeld ?_ ?_
            rotate_left
            · rintro w' ⟨sb1, s0, s1, s2, s3, s4, s5⟩
              try simp only [Int.toNat_natCast] at s0 s1 s2 s3 s4 s5
              go_simp
              with_reducible rfl
            rotate_left
            · simp only [Act.put, List.setIfInBounds_toArray, List.set_cons_zero, List.set_cons_succ, i64_w, i32_w]
              rfl
            refine take_ (i := 7) (N := some 30) (v := ?_) (a' := ?_) #[true, true, true, true, true, true, true, true, false] rfl rfl (take_ofW HT_.out HW_.out (by kernel_rfl)) (fun _ _ _ h => h) (Or.inl ⟨by rfl, ?_⟩) hHeld ?_ ?_
            rotate_left
            · rintro w' ⟨sb1, s0, s1, s2, s3, s4, s5⟩
              try simp only [Int.toNat_natCast] at s0 s1 s2 s3 s4 s5
              go_simp
              with_reducible rfl
            rotate_left
            · simp only [Act.put, List.setIfInBounds_toArray, List.set_cons_zero, List.set_cons_succ, i64_w, i32_w]
              rfl
            refine one_ (i := 8) (N := some 31) #[true, true, true, true, true, true, true, true, true] rfl rfl (one_of HT_.out (by kernel_rfl)) (by decide) (fun K hK => ?_)
            refine goes_ Try.func48 (by kernel_rfl) rfl #[.agg #[.int .i8 ((rd_T64 l1 (rd l0 x10_1)).f0), .int .i8 ((rd_T64 l1 (rd l0 x10_1)).f1), .int .i8 ((rd_T64 l1 (rd l0 x10_1)).f2)], .agg #[.int .i8 ((rd_T64 l1 (rd (l0.take (x10_1 : Int).toNat) x19_2)).f0), .int .i8 ((rd_T64 l1 (rd (l0.take (x10_1 : Int).toNat) x19_2)).f1), .int .i8 ((rd_T64 l1 (rd (l0.take (x10_1 : Int).toNat) x19_2)).f2)]] (by rfl) rfl rfl (by (try simp only [List.map_toArray, List.map_cons, List.map_nil]); first | done | rfl | (simp only [List.length_drop, List.length_take]; rfl)) ?_
            with_reducible refine (impl_nested.calls k2 ((rd_T64 l1 (rd l0 x10_1)).f0) ((rd_T64 l1 (rd l0 x10_1)).f1) ((rd_T64 l1 (rd l0 x10_1)).f2) ((rd_T64 l1 (rd (l0.take (x10_1 : Int).toNat) x19_2)).f0) ((rd_T64 l1 (rd (l0.take (x10_1 : Int).toNat) x19_2)).f1) ((rd_T64 l1 (rd (l0.take (x10_1 : Int).toNat) x19_2)).f2) false _ A16.out).mono ?_
            rintro e w21 ⟨rfl, hb⟩
            refine ⟨_, rfl, ?_⟩
            have n0_ := Aside0.mk (below_step (by repeat (first | (with_reducible first | exact HB.out | apply below_alloc | apply pw_below_drewN | apply below_drew1) | exact HB.out)) hb)
            clear HB
            have HB := n0_
            clear n0_
            (try clear hb)
            (try clear hb2)
            (try clear hk)
            (try clear hi)
            refine hK.out _ _ ⟨pw_cell_below HB.out HX1.out, ((HB.out.cell (World.block_lt_of_cell? w _ hw449_0)).trans hw449_0), ((HB.out.cell (World.block_lt_of_cell? w _ hw449_1)).trans hw449_1), ((HB.out.cell (World.block_lt_of_cell? w _ hw449_2)).trans hw449_2), ((HB.out.cell (World.block_lt_of_cell? w _ hw450_0)).trans hw450_0), ((HB.out.cell (World.block_lt_of_cell? w _ hw450_1)).trans hw450_1), ((HB.out.cell (World.block_lt_of_cell? w _ hw450_2)).trans hw450_2)⟩ (fun hHeld => ?_)
            clear hK K
            refine norm_ (a' := ?_) ?_ ?_
            rotate_left
            · show Act.put _ (some 31) _ = _
              simp only [Act.put, List.setIfInBounds_toArray, List.set_cons_zero, List.set_cons_succ, i64_w, i32_w]
              rfl
            refine done_ (done_of HT_.out (by kernel_rfl)) ?_
            try go_wp2
            go_roundg k2
            case measure => have := HK1.out; have := HK2.out; omega
            case rel => exact ⟨(wrap64 (x19_2 + 1)), (by first | rfl | (simp; done) | (simp [*]; done)), H', ⟨by have := HK1.out; have := HK2.out; omega⟩, ⟨by repeat (first | (with_reducible first | exact HB.out | apply below_alloc | apply pw_below_drewN | apply below_drew1) | exact HB.out)⟩⟩
          subst c17
          have H1 : (some false) = some r := by rw [if_pos rfl] at H; exact H
          clear H
          have H := H1
          clear H1
          obtain rfl := Option.some.inj H
          have p448 : 0 ≤ (x19_2 : Int) := of_decide_eq_true (by first | (with_reducible assumption) | assumption)
          have q448 : x19_2 < ((l0.take (x10_1 : Int).toNat).length : Int) := of_decide_eq_true (by first | (with_reducible assumption) | assumption)
          obtain ⟨ad448, e448, hx448_0⟩ := Kd.at_int HR447.out x19_2 p448 q448
          obtain rfl : ad446 = ad448 := (by injection e448)
          replace hx448_0 := (HB.out.cell (World.block_lt_of_cell? w _ hx448_0)).trans hx448_0
          replace p448 := eq_true p448
          replace q448 := eq_true q448
          try go_wp2
          have n0_ := Aside0.mk (below_drew1 HB.out)
          clear HB
          have HB := n0_
          clear n0_
          have p449 : 0 ≤ ((rd l0 x10_1) : Int) := of_decide_eq_true (by first | (with_reducible assumption) | assumption)
          have q449 : (rd l0 x10_1) < (l1.length : Int) := of_decide_eq_true (by first | (with_reducible assumption) | assumption)
          obtain ⟨ad449, e449, hx449_0, hx449_1, hx449_2⟩ := at_T64 HR1.out (rd l0 x10_1) p449 q449
          have hw449_2 := hx449_2
          have hw449_1 := hx449_1
          have hw449_0 := hx449_0
          cases e449
          replace hx449_0 := (HB.out.cell (World.block_lt_of_cell? w _ hx449_0)).trans hx449_0
          replace hx449_1 := (HB.out.cell (World.block_lt_of_cell? w _ hx449_1)).trans hx449_1
          replace hx449_2 := (HB.out.cell (World.block_lt_of_cell? w _ hx449_2)).trans hx449_2
          replace p449 := eq_true p449
          replace q449 := eq_true q449
          have p450 : 0 ≤ ((rd (l0.take (x10_1 : Int).toNat) x19_2) : Int) := of_decide_eq_true (by first | (with_reducible assumption) | assumption)
          have q450 : (rd (l0.take (x10_1 : Int).toNat) x19_2) < (l1.length : Int) := of_decide_eq_true (by first | (with_reducible assumption) | assumption)
          obtain ⟨ad450, e450, hx450_0, hx450_1, hx450_2⟩ := at_T64 HR1.out (rd (l0.take (x10_1 : Int).toNat) x19_2) p450 q450
          have hw450_2 := hx450_2
          have hw450_1 := hx450_1
          have hw450_0 := hx450_0
          obtain rfl : ad449 = ad450 := (by injection e450)
          replace hx450_0 := (HB.out.cell (World.block_lt_of_cell? w _ hx450_0)).trans hx450_0
          replace hx450_1 := (HB.out.cell (World.block_lt_of_cell? w _ hx450_1)).trans hx450_1
          replace hx450_2 := (HB.out.cell (World.block_lt_of_cell? w _ hx450_2)).trans hx450_2
          replace p450 := eq_true p450
          replace q450 := eq_true q450
          refine start_ (n := 9) (S := fun w' => w'.cell? ⟨b1, 0, none⟩ = some (.slice (some ad449) l1.length c1) ∧ w'.cell? (ad449.add (((rd l0 x10_1)).toNat * 3)) = some (.int .i8 ((rd_T64 l1 (rd l0 x10_1)).f0)) ∧ w'.cell? ⟨(ad449.add (((rd l0 x10_1)).toNat * 3)).block, (ad449.add (((rd l0 x10_1)).toNat * 3)).off + 1, none⟩ = some (.int .i8 ((rd_T64 l1 (rd l0 x10_1)).f1)) ∧ w'.cell? ⟨(ad449.add (((rd l0 x10_1)).toNat * 3)).block, (ad449.add (((rd l0 x10_1)).toNat * 3)).off + 2, none⟩ = some (.int .i8 ((rd_T64 l1 (rd l0 x10_1)).f2)) ∧ w'.cell? (ad449.add (((rd (l0.take (x10_1 : Int).toNat) x19_2)).toNat * 3)) = some (.int .i8 ((rd_T64 l1 (rd (l0.take (x10_1 : Int).toNat) x19_2)).f0)) ∧ w'.cell? ⟨(ad449.add (((rd (l0.take (x10_1 : Int).toNat) x19_2)).toNat * 3)).block, (ad449.add (((rd (l0.take (x10_1 : Int).toNat) x19_2)).toNat * 3)).off + 1, none⟩ = some (.int .i8 ((rd_T64 l1 (rd (l0.take (x10_1 : Int).toNat) x19_2)).f1)) ∧ w'.cell? ⟨(ad449.add (((rd (l0.take (x10_1 : Int).toNat) x19_2)).toNat * 3)).block, (ad449.add (((rd (l0.take (x10_1 : Int).toNat) x19_2)).toNat * 3)).off + 2, none⟩ = some (.int .i8 ((rd_T64 l1 (rd (l0.take (x10_1 : Int).toNat) x19_2)).f2))) (ds := []) #[false, false, false, false, false, false, false, false, false] (by kernel_rfl) rfl rfl ⟨pw_cell_below HB.out HX1.out, ((HB.out.cell (World.block_lt_of_cell? w _ hw449_0)).trans hw449_0), ((HB.out.cell (World.block_lt_of_cell? w _ hw449_1)).trans hw449_1), ((HB.out.cell (World.block_lt_of_cell? w _ hw449_2)).trans hw449_2), ((HB.out.cell (World.block_lt_of_cell? w _ hw450_0)).trans hw450_0), ((HB.out.cell (World.block_lt_of_cell? w _ hw450_1)).trans hw450_1), ((HB.out.cell (World.block_lt_of_cell? w _ hw450_2)).trans hw450_2)⟩ (fun hHeld => ?_); refine with_tabW impl_LargestApart_1.tab7 impl_LargestApart_1.bits7 (fun HT_ HW_ => ?_)
          generalize wr.drew = w18 at HB hx449_0 hx449_1 hx449_2 hx450_0 hx450_1 hx450_2 hHeld ⊢
          refine take_ (i := 0) (N := some 23) (v := ?_) (a' := ?_) #[true, false, false, false, false, false, false, false, false] rfl rfl (take_ofW HT_.out HW_.out (by kernel_rfl)) (fun _ _ _ h => h) (Or.inl ⟨by rfl, ?_⟩) hHeld ?_ ?_
          rotate_left
          · rintro w' ⟨sb1, _⟩
            go_simp
            with_reducible rfl
          rotate_left
          · simp only [Act.put, List.setIfInBounds_toArray, List.set_cons_zero, List.set_cons_succ, i64_w, i32_w]
            rfl
          refine pure_ (i := 1) (N := some 24) (v := ?_) (a' := ?_) #[true, true, false, false, false, false, false, false, false] rfl rfl (any_of HT_.out (by kernel_rfl)) (fun _ _ _ h => h) (Or.inl ⟨by rfl, ?_⟩) ?_ ?_
          rotate_left
          · intro w'
            go_simp
            with_reducible rfl
          rotate_left
          · simp only [Act.put, List.setIfInBounds_toArray, List.set_cons_zero, List.set_cons_succ, i64_w, i32_w]
            rfl
          refine pure_ (i := 2) (N := some 25) (v := ?_) (a' := ?_) #[true, true, true, false, false, false, false, false, false] rfl rfl (any_of HT_.out (by kernel_rfl)) (fun _ _ _ h => h) (Or.inl ⟨by rfl, ?_⟩) ?_ ?_
          rotate_left
          · intro w'
            go_simp
            with_reducible rfl
          rotate_left
          · simp only [Act.put, List.setIfInBounds_toArray, List.set_cons_zero, List.set_cons_succ, i64_w, i32_w]
            rfl
          refine take_ (i := 4) (N := some 27) (v := ?_) (a' := ?_) #[true, true, true, false, true, false, false, false, false] rfl rfl (take_ofW HT_.out HW_.out (by kernel_rfl)) (fun _ _ _ h => h) (Or.inl ⟨by rfl, ?_⟩) hHeld ?_ ?_
          rotate_left
          · rintro w' ⟨sb1, _⟩
            go_simp
            with_reducible rfl
          rotate_left
          · simp only [Act.put, List.setIfInBounds_toArray, List.set_cons_zero, List.set_cons_succ, i64_w, i32_w]
            rfl
          refine pure_ (i := 5) (N := some 28) (v := ?_) (a' := ?_) #[true, true, true, false, true, true, false, false, false] rfl rfl (any_of HT_.out (by kernel_rfl)) (fun _ _ _ h => h) (Or.inl ⟨by rfl, ?_⟩) ?_ ?_
          rotate_left
          · intro w'
            go_simp
            with_reducible rfl
          rotate_left
          · simp only [Act.put, List.setIfInBounds_toArray, List.set_cons_zero, List.set_cons_succ, i64_w, i32_w]
            rfl
          refine pure_ (i := 6) (N := some 29) (v := ?_) (a' := ?_) #[true, true, true, false, true, true, true, false, false] rfl rfl (any_of HT_.out (by kernel_rfl)) (fun _ _ _ h => h) (Or.inl ⟨by rfl, ?_⟩) ?_ ?_
          rotate_left
          · intro w'
            go_simp
            with_reducible rfl
          rotate_left
          · simp only [Act.put, List.setIfInBounds_toArray, List.set_cons_zero, List.set_cons_succ, i64_w, i32_w]
            rfl
          refine take_ (i := 3) (N := some 26) (v := ?_) (a' := ?_) #[true, true, true, true, true, true, true, false, false] rfl rfl (take_ofW HT_.out HW_.out (by kernel_rfl)) (fun _ _ _ h => h) (Or.inl ⟨by rfl, ?_⟩) hHeld ?_ ?_
          rotate_left
          · rintro w' ⟨sb1, s0, s1, s2, s3, s4, s5⟩
            try simp only [Int.toNat_natCast] at s0 s1 s2 s3 s4 s5
            go_simp
            with_reducible rfl
          rotate_left
          · simp only [Act.put, List.setIfInBounds_toArray, List.set_cons_zero, List.set_cons_succ, i64_w, i32_w]
            rfl
          refine take_ (i := 7) (N := some 30) (v := ?_) (a' := ?_) #[true, true, true, true, true, true, true, true, false] rfl rfl (take_ofW HT_.out HW_.out (by kernel_rfl)) (fun _ _ _ h => h) (Or.inl ⟨by rfl, ?_⟩) hHeld ?_ ?_
          rotate_left
          · rintro w' ⟨sb1, s0, s1, s2, s3, s4, s5⟩
            try simp only [Int.toNat_natCast] at s0 s1 s2 s3 s4 s5
            go_simp
            with_reducible rfl
          rotate_left
          · simp only [Act.put, List.setIfInBounds_toArray, List.set_cons_zero, List.set_cons_succ, i64_w, i32_w]
            rfl
          refine one_ (i := 8) (N := some 31) #[true, true, true, true, true, true, true, true, true] rfl rfl (one_of HT_.out (by kernel_rfl)) (by decide) (fun K hK => ?_)
          refine goes_ Try.func48 (by kernel_rfl) rfl #[.agg #[.int .i8 ((rd_T64 l1 (rd l0 x10_1)).f0), .int .i8 ((rd_T64 l1 (rd l0 x10_1)).f1), .int .i8 ((rd_T64 l1 (rd l0 x10_1)).f2)], .agg #[.int .i8 ((rd_T64 l1 (rd (l0.take (x10_1 : Int).toNat) x19_2)).f0), .int .i8 ((rd_T64 l1 (rd (l0.take (x10_1 : Int).toNat) x19_2)).f1), .int .i8 ((rd_T64 l1 (rd (l0.take (x10_1 : Int).toNat) x19_2)).f2)]] (by rfl) rfl rfl (by (try simp only [List.map_toArray, List.map_cons, List.map_nil]); first | done | rfl | (simp only [List.length_drop, List.length_take]; rfl)) ?_
          with_reducible refine (impl_nested.calls k2 ((rd_T64 l1 (rd l0 x10_1)).f0) ((rd_T64 l1 (rd l0 x10_1)).f1) ((rd_T64 l1 (rd l0 x10_1)).f2) ((rd_T64 l1 (rd (l0.take (x10_1 : Int).toNat) x19_2)).f0) ((rd_T64 l1 (rd (l0.take (x10_1 : Int).toNat) x19_2)).f1) ((rd_T64 l1 (rd (l0.take (x10_1 : Int).toNat) x19_2)).f2) true _ A16.out).mono ?_
          rintro e w19 ⟨rfl, hb⟩
          refine ⟨_, rfl, ?_⟩
          have n0_ := Aside0.mk (below_step (by repeat (first | (with_reducible first | exact HB.out | apply below_alloc | apply pw_below_drewN | apply below_drew1) | exact HB.out)) hb)
          clear HB
          have HB := n0_
          clear n0_
          (try clear hb)
          (try clear hb2)
          (try clear hk)
          (try clear hi)
          refine hK.out _ _ ⟨pw_cell_below HB.out HX1.out, ((HB.out.cell (World.block_lt_of_cell? w _ hw449_0)).trans hw449_0), ((HB.out.cell (World.block_lt_of_cell? w _ hw449_1)).trans hw449_1), ((HB.out.cell (World.block_lt_of_cell? w _ hw449_2)).trans hw449_2), ((HB.out.cell (World.block_lt_of_cell? w _ hw450_0)).trans hw450_0), ((HB.out.cell (World.block_lt_of_cell? w _ hw450_1)).trans hw450_1), ((HB.out.cell (World.block_lt_of_cell? w _ hw450_2)).trans hw450_2)⟩ (fun hHeld => ?_)
          clear hK K
          refine norm_ (a' := ?_) ?_ ?_
          rotate_left
          · show Act.put _ (some 31) _ = _
            simp only [Act.put, List.setIfInBounds_toArray, List.set_cons_zero, List.set_cons_succ, i64_w, i32_w]
            rfl
          refine done_ (done_of HT_.out (by kernel_rfl)) ?_
          try go_wp2
          go_ret
          exact ⟨by first | rfl | (simp [errW_none, errW_some] <;> rfl) | (simp [*, errW_none, errW_some] <;> rfl), by repeat (first | (with_reducible first | exact HB.out | apply below_alloc | apply pw_below_drewN | apply below_drew1) | exact HB.out)⟩
end Go.Proofs.Ytipdmnibjkdpcaa.P

namespace Go.Proofs.Ytipdmnibjkdpcaa.P
open Go.RowKit Go.Proofs.YtipdmnibjkdpcaaW.PrintWords Go.Proofs.YtipdmnibjkdpcaaW.PrintLast Go.Proofs.YtipdmnibjkdpcaaW.PrintMore
attribute [local go_sem] max2_int min2_int max_two min_two max_three min_three max_four min_four
set_option linter.unusedVariables false
set_option linter.unusedSimpArgs false
def impl_LargestApart.f (k : Nat) (l0 : List (S64)) : Option (List Int × Int) := (impl_boxesCode.f k l0).bind fun t845 => (if t845 = 0 then ((impl_longest.f (fun y_ => impl_LargestApart_1.f k y_ l0) k (l0.length : Int)).bind fun t846 => (some (t846, 0))) else (some (([] : List Int), t845)))
set_option maxHeartbeats 8000000 in
set_option maxRecDepth 100000 in
theorem impl_LargestApart.calls (k : Nat) (A0 : Option Addr) (c0 : Nat) (l0 : List (S64)) (r1 : List Int) (r2 : Int) (w : World) (hr0 : Kd.C k64 w A0 l0.length l0) (hc0 : l0.length ≤ c0) (h : impl_LargestApart.f k l0 = some (r1, r2)) :
    Calls Try.prog 24 #[.slice A0 l0.length c0] w fun e w' => ∃ v0_ : Value, e = .returned (.tuple #[v0_, .int .i64 r2]) ∧ Kd.R (Kd.int .i64) 2 w' w.heap.size (fun _ => True) v0_ r1 ∧ Below w.heap.size w w' := by
  have HR0 := Aside0.mk hr0
  have HC0 := Aside0.mk hc0
  clear hr0 hc0
  have HB := Aside0.mk (Below.refl w.heap.size w)
  have hx2 : (w.alloc (.cells #[.slice A0 l0.length c0] 35)).cell? ⟨w.heap.size, 0, none⟩ = some (.slice A0 l0.length c0) := (blk_cell (blk_new w _) 0).trans rfl
  have H : ((impl_boxesCode.f k l0).bind fun t845 => (if t845 = 0 then ((impl_longest.f (fun y_ => impl_LargestApart_1.f k y_ l0) k (l0.length : Int)).bind fun t846 => (some (t846, 0))) else (some (([] : List Int), t845)))) = some (r1, r2) := h
  clear h
  replace H := Option.bind_eq_some_iff.mp H
  obtain ⟨t845, A30, H⟩ := H
  replace H : (if t845 = 0 then ((impl_longest.f (fun y_ => impl_LargestApart_1.f k y_ l0) k (l0.length : Int)).bind fun t846 => (some (t846, 0))) else (some (([] : List Int), t845))) = some (r1, r2) := H
  have A3 := Aside0.mk A30
  clear A30
  by_cases c4 : t845 = 0
  rotate_left
  · rw [if_neg c4] at H
    have c4b0 : (t845 == 0) = false := beq_eq_false_iff_ne.mpr c4
    have c4b1 : (t845 != 0) = true := bne_iff_ne.mpr c4
    simp only [Option.some.injEq, Prod.mk.injEq] at H
    obtain ⟨rfl, rfl⟩ := H
    go_enter Try.func24, Try.ntmps24
    go_wp2_with (first | ((with_reducible refine gate_callee (f := 40) rfl ?_); refine goesL_ (some 6) rfl rfl Try.func40 (by kernel_rfl) rfl #[.slice A0 l0.length c0] rfl (by (try simp only [List.map_toArray, List.map_cons, List.map_nil]); first | done | rfl | (simp only [List.length_drop, List.length_take]; rfl)) ?_; (with_reducible refine (impl_boxesCode.calls k _ _ l0 t845 _ ?side1 ?side2 A3.out).mono ?_); (case side1 => repeat (first | exact HR0.out | (with_reducible refine Kd.C_alloc ?_ _) | (with_reducible refine Kd.C_drewN ?_ _) | (with_reducible refine Kd.C_drew ?_))); (case side2 => exact HC0.out); rintro e w8 ⟨rfl, hb⟩; have hd2 := pw_cell_below hb hx2; clear hx2; refine ⟨_, rfl, ?_⟩; have n0_ := Aside0.mk (below_step (by repeat (first | (with_reducible first | exact HB.out | apply below_alloc | apply pw_below_drewN | apply below_drew1) | exact HB.out)) hb); clear HB; have HB := n0_; clear n0_; (try clear hb); (try clear hb2); (try clear hk); (try clear hi)))
    go_ret2
    exact ⟨_, by first | rfl | (simp [errW_none, errW_some] <;> rfl) | (simp [*, errW_none, errW_some] <;> rfl), by first | exact Kd.R_nil _ _ _ _ _ | exact Kd.N_nil _ _ _ _ _ | exact Kd.V_nil _ _ _ _ _ | exact Kd.Q_nil _ _ _ _ _ | exact Kd.S_nil _ _ _ _ _, by repeat (first | (with_reducible first | exact HB.out | apply below_alloc | apply pw_below_drewN | apply below_drew1) | exact HB.out)⟩
  rw [if_pos c4] at H
  have c4b0 : (t845 == 0) = true := beq_iff_eq.mpr c4
  have c4b1 : (t845 != 0) = false := bne_eq_false_iff_eq.mpr c4
  clear c4
  replace H := Option.bind_eq_some_iff.mp H
  obtain ⟨t846, A50, H⟩ := H
  replace H : (some (t846, 0)) = some (r1, r2) := H
  have A5 := Aside0.mk A50
  clear A50
  simp only [Option.some.injEq, Prod.mk.injEq] at H
  obtain ⟨rfl, rfl⟩ := H
  go_enter Try.func24, Try.ntmps24
  go_wp2_with (first | ((with_reducible refine gate_callee (f := 40) rfl ?_); refine goesL_ (some 6) rfl rfl Try.func40 (by kernel_rfl) rfl #[.slice A0 l0.length c0] rfl (by (try simp only [List.map_toArray, List.map_cons, List.map_nil]); first | done | rfl | (simp only [List.length_drop, List.length_take]; rfl)) ?_; (with_reducible refine (impl_boxesCode.calls k _ _ l0 t845 _ ?side1 ?side2 A3.out).mono ?_); (case side1 => repeat (first | exact HR0.out | (with_reducible refine Kd.C_alloc ?_ _) | (with_reducible refine Kd.C_drewN ?_ _) | (with_reducible refine Kd.C_drew ?_))); (case side2 => exact HC0.out); rintro e w6 ⟨rfl, hb⟩; have hd2 := pw_cell_below hb hx2; clear hx2; refine ⟨_, rfl, ?_⟩; have n0_ := Aside0.mk (below_step (by repeat (first | (with_reducible first | exact HB.out | apply below_alloc | apply pw_below_drewN | apply below_drew1) | exact HB.out)) hb); clear HB; have HB := n0_; clear n0_; (try clear hb); (try clear hb2); (try clear hk); (try clear hi)) | ((with_reducible refine gate_callee (f := 46) rfl ?_); refine goesL_ (some 13) rfl rfl Try.func46 (by kernel_rfl) rfl #[.int .i64 (l0.length : Int), .func (.func 47) #[] #[.pointer (some ⟨w.heap.size, 0, none⟩)]] rfl (by (try simp only [List.map_toArray, List.map_cons, List.map_nil]); first | done | rfl | (simp only [List.length_drop, List.length_take]; rfl)) ?_; (refine (impl_longest.calls k (fun y_ => impl_LargestApart_1.f k y_ l0) 47 #[.pointer (some ⟨w.heap.size, 0, none⟩)] (l0.length : Int) t846 _ (enters_of Try.func47 (by kernel_rfl) rfl) (fun W_ hW_ A_ c_ l_ b_ hC_ hc_ hq_ => impl_LargestApart_1.calls k A_ c_ l_ A0 c0 l0 b_ W_ w.heap.size (pw_cell_below hW_ hd2) hC_ hc_ (Kd.C_below HR0.out (below_then HB.out HB.out.size hW_)) HC0.out hq_) A5.out).mono ?_); rintro e w7 ⟨v847, rfl, ho0, hb⟩; refine ⟨_, rfl, ?_⟩; have n0_ := Aside0.mk (Kd.R_lower ho0 (below_size (by repeat (first | (with_reducible first | exact HB.out | apply below_alloc | apply pw_below_drewN | apply below_drew1) | exact HB.out)))); have n1_ := Aside0.mk (below_step (by repeat (first | (with_reducible first | exact HB.out | apply below_alloc | apply pw_below_drewN | apply below_drew1) | exact HB.out)) hb); clear HB; have HO848 := n0_; have HB := n1_; clear n0_ n1_; (try clear hb); (try clear hb2); (try clear hk); (try clear hi); (try clear ho0)))
  go_ret2
  exact ⟨_, by first | rfl | (simp [errW_none, errW_some] <;> rfl) | (simp [*, errW_none, errW_some] <;> rfl), by (with_reducible repeat (first | apply Kd.R_alloc | apply Kd.R_drewN | apply Kd.R_drew)); exact HO848.out, by repeat (first | (with_reducible first | exact HB.out | apply below_alloc | apply pw_below_drewN | apply below_drew1) | exact HB.out)⟩
end Go.Proofs.Ytipdmnibjkdpcaa.P
