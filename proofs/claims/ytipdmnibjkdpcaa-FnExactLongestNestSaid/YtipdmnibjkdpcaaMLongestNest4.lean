/- The Go functions that the law FnExactLongestNest comes to, as plain Lean functions, the proofs that calls of them return what those tell, and the plain lemmas on them; no condition but those that each theorem states. -/
import Derived.Test.YtipdmnibjkdpcaaMLongestNest2
import Derived.Test.YtipdmnibjkdpcaaMLongestNest3
namespace Go.Proofs.Ytipdmnibjkdpcaa.P
open Go.RowKit Go.Proofs.YtipdmnibjkdpcaaW.PrintWords Go.Proofs.YtipdmnibjkdpcaaW.PrintLast Go.Proofs.YtipdmnibjkdpcaaW.PrintMore
attribute [local go_sem] max2_int min2_int max_two min_two max_three min_three max_four min_four
set_option linter.unusedVariables false
set_option linter.unusedSimpArgs false
def impl_Box_inside.f (k : Nat) (a0_0 : Int) (a0_1 : Int) (a0_2 : Int) (a1_0 : Int) (a1_1 : Int) (a1_2 : Int) : Option (Bool) := (impl_Box_sorted.f k a0_0 a0_1 a0_2).bind fun bt371 => ((impl_Box_sorted.f k a1_0 a1_1 a1_2).bind fun bt374 => (if bt371.1 < bt374.1 then (if bt371.2.1 < bt374.2.1 then (some (decide (bt371.2.2 < bt374.2.2))) else (some false)) else (some false)))
def impl_Box_inside.T1 : Bool × List (List Nat × List Nat) := (true, [([], []), ([0], [0]), ([], []), ([2, 1], [2]), ([], []), ([], []), ([4, 1, 3, 0, 1, 4, 5], [1, 4]), ([5, 3, 6, 0, 1, 2, 3, 4, 5, 6], [3, 5])])
def impl_Box_inside.B1 : List Nat := [0, 1, 0, 7, 0, 0, 63, 127]
theorem impl_Box_inside.tab1 : rtab .any (opsOf Try.f42 1) = impl_Box_inside.T1 := by kernel_rfl
theorem impl_Box_inside.bits1 : waitsOk impl_Box_inside.T1.2 impl_Box_inside.B1 = true := by kernel_rfl
set_option maxHeartbeats 8000000 in
set_option maxRecDepth 100000 in
theorem impl_Box_inside.calls (k : Nat) (a0_0 : Int) (a0_1 : Int) (a0_2 : Int) (a1_0 : Int) (a1_1 : Int) (a1_2 : Int) (r : Bool) (w : World) (h : impl_Box_inside.f k a0_0 a0_1 a0_2 a1_0 a1_1 a1_2 = some r) :
    Calls Try.prog 42 #[.agg #[.int .i8 a0_0, .int .i8 a0_1, .int .i8 a0_2], .agg #[.int .i8 a1_0, .int .i8 a1_1, .int .i8 a1_2]] w fun e w' => e = .returned (.bool r) ∧ Below w.heap.size w w' := by
  have hu64 := Try.underlying64
  have HB := Aside0.mk (Below.refl w.heap.size w)
  have H : ((impl_Box_sorted.f k a0_0 a0_1 a0_2).bind fun bt371 => ((impl_Box_sorted.f k a1_0 a1_1 a1_2).bind fun bt374 => (if bt371.1 < bt374.1 then (if bt371.2.1 < bt374.2.1 then (some (decide (bt371.2.2 < bt374.2.2))) else (some false)) else (some false)))) = some r := h
  clear h
  replace H := Option.bind_eq_some_iff.mp H
  obtain ⟨⟨t371, t372, t373⟩, A30, H⟩ := H
  replace H : ((impl_Box_sorted.f k a1_0 a1_1 a1_2).bind fun bt374 => (if t371 < bt374.1 then (if t372 < bt374.2.1 then (some (decide (t373 < bt374.2.2))) else (some false)) else (some false))) = some r := H
  have A3 := Aside0.mk A30
  clear A30
  replace H := Option.bind_eq_some_iff.mp H
  obtain ⟨⟨t374, t375, t376⟩, A40, H⟩ := H
  replace H : (if t371 < t374 then (if t372 < t375 then (some (decide (t373 < t376))) else (some false)) else (some false)) = some r := H
  have A4 := Aside0.mk A40
  clear A40
  have HLATE := Aside0.mk H
  clear H
  go_enter Try.func42, Try.ntmps42
  try go_wp2_with (first | ((with_reducible refine gate_dst (N := 2) rfl ?_); refine box_event ?hg (N := 2) ?hd (cs := #[.int .i8 a0_0, .int .i8 a0_1, .int .i8 a0_2]) (t := 64) ?hr ?_; (case hd => rfl); (case hg => rfl); (case hr => first | (go_simp; done) | (go_simp; rfl)); intro gb369 hg w7 hbox hb; have n0_ := Aside0.mk (below_step (by repeat (first | (with_reducible first | exact HB.out | apply below_alloc | apply pw_below_drewN | apply below_drew1) | exact HB.out)) hb); have n1_ := Aside0.mk (hbox); have n2_ := Aside0.mk ((by rw [hg]; exact (below_size (by repeat (first | (with_reducible first | exact HB.out | apply below_alloc | apply pw_below_drewN | apply below_drew1) | exact HB.out))) : w.heap.size ≤ gb369)); have n3_ := Aside0.mk ((by rw [hg]; exact (below_size (by repeat (first | (with_reducible first | exact HB.out | apply below_alloc | apply pw_below_drewN | apply below_drew1) | exact HB.out))) : w.heap.size ≤ gb369)); clear HB; have HB := n0_; have BK369 := n1_; have GW369 := n2_; have GE369 := n3_; clear n0_ n1_ n2_ n3_; clear hb hbox hg) | ((with_reducible refine gate_dst (N := 3) rfl ?_); refine box_event ?hg (N := 3) ?hd (cs := #[.int .i8 a1_0, .int .i8 a1_1, .int .i8 a1_2]) (t := 64) ?hr ?_; (case hd => rfl); (case hg => rfl); (case hr => first | (go_simp; done) | (go_simp; rfl)); intro gb370 hg w8 hbox hb; have n0_ := Aside0.mk (blk_below (g := gb369) (o := .cells #[.int .i8 a0_0, .int .i8 a0_1, .int .i8 a0_2] 64 (0, 0)) (by (with_reducible repeat (first | refine blk_drewN ?_ _ | refine blk_drew ?_ | refine blk_alloc ?_ _)); exact BK369.out) hb); have n1_ := Aside0.mk (below_step (by repeat (first | (with_reducible first | exact HB.out | apply below_alloc | apply pw_below_drewN | apply below_drew1 | refine below_set ?_ GE369.out) | exact HB.out)) hb); have n2_ := Aside0.mk (hbox); have n3_ := Aside0.mk ((by rw [hg]; exact (below_size (by repeat (first | (with_reducible first | exact HB.out | apply below_alloc | apply pw_below_drewN | apply below_drew1 | refine below_set ?_ GE369.out) | exact HB.out))) : w.heap.size ≤ gb370)); have n4_ := Aside0.mk ((by rw [hg]; exact (below_size (by repeat (first | (with_reducible first | exact HB.out | apply below_alloc | apply pw_below_drewN | apply below_drew1 | refine below_set ?_ GE369.out) | exact HB.out))) : w.heap.size ≤ gb370)); have n5_ := Aside0.mk ((by rw [hg]; exact Nat.ne_of_lt (blk_lt (g := gb369) (o := .cells #[.int .i8 a0_0, .int .i8 a0_1, .int .i8 a0_2] 64 (0, 0)) (by (with_reducible repeat (first | refine blk_drewN ?_ _ | refine blk_drew ?_ | refine blk_alloc ?_ _)); exact BK369.out)) : gb369 ≠ gb370)); have n6_ := Aside0.mk ((by rw [hg]; exact Nat.ne_of_gt (blk_lt (g := gb369) (o := .cells #[.int .i8 a0_0, .int .i8 a0_1, .int .i8 a0_2] 64 (0, 0)) (by (with_reducible repeat (first | refine blk_drewN ?_ _ | refine blk_drew ?_ | refine blk_alloc ?_ _)); exact BK369.out)) : gb370 ≠ gb369)); clear BK369; clear HB; have BK369 := n0_; have HB := n1_; have BK370 := n2_; have GW370 := n3_; have GE370 := n4_; have NB369_370 := n5_; have NB370_369 := n6_; clear n0_ n1_ n2_ n3_ n4_ n5_ n6_; clear hb hbox hg))
  have n0_ := Aside0.mk (blk_drew BK369.out)
  have n1_ := Aside0.mk (blk_drew BK370.out)
  have n2_ := Aside0.mk (below_drew1 HB.out)
  clear BK369
  clear BK370
  clear HB
  have BK369 := n0_
  have BK370 := n1_
  have HB := n2_
  clear n0_ n1_ n2_
  refine start_ (n := 8) (S := fun w' => w'.cell? ⟨gb369, 0, none⟩ = some (.int .i8 a0_0) ∧ w'.cell? ⟨gb369, 1, none⟩ = some (.int .i8 a0_1) ∧ w'.cell? ⟨gb369, 2, none⟩ = some (.int .i8 a0_2) ∧ w'.cell? ⟨gb370, 0, none⟩ = some (.int .i8 a1_0) ∧ w'.cell? ⟨gb370, 1, none⟩ = some (.int .i8 a1_1) ∧ w'.cell? ⟨gb370, 2, none⟩ = some (.int .i8 a1_2)) (ds := []) #[false, false, false, false, false, false, false, false] (by kernel_rfl) rfl rfl ⟨(blk_cell BK369.out 0).trans rfl, (blk_cell BK369.out 1).trans rfl, (blk_cell BK369.out 2).trans rfl, (blk_cell BK370.out 0).trans rfl, (blk_cell BK370.out 1).trans rfl, (blk_cell BK370.out 2).trans rfl⟩ (fun hHeld => ?_); refine with_tabW impl_Box_inside.tab1 impl_Box_inside.bits1 (fun HT_ HW_ => ?_)
  generalize w8.drew = w9 at BK369 BK370 HB hHeld ⊢
  refine take_ (i := 0) (N := some 7) (v := ?_) (a' := ?_) #[true, false, false, false, false, false, false, false] rfl rfl (take_ofW HT_.out HW_.out (by kernel_rfl)) (fun _ _ _ h => h) (Or.inl ⟨by rfl, ?_⟩) hHeld ?_ ?_
  rotate_left
  · rintro w' ⟨s0, s1, s2, s3, s4, s5⟩
    go_simp
    with_reducible rfl
  rotate_left
  · simp only [Act.put, List.setIfInBounds_toArray, List.set_cons_zero, List.set_cons_succ, i64_w, i32_w]
    rfl
  refine take_ (i := 2) (N := some 9) (v := ?_) (a' := ?_) #[true, false, true, false, false, false, false, false] rfl rfl (take_ofW HT_.out HW_.out (by kernel_rfl)) (fun _ _ _ h => h) (Or.inl ⟨by rfl, ?_⟩) hHeld ?_ ?_
  rotate_left
  · rintro w' ⟨s0, s1, s2, s3, s4, s5⟩
    go_simp
    with_reducible rfl
  rotate_left
  · simp only [Act.put, List.setIfInBounds_toArray, List.set_cons_zero, List.set_cons_succ, i64_w, i32_w]
    rfl
  refine join_ (σ := Nat × Nat) 2 #[true, true, true, true, true, true, false, false] (fun s_ => [(8, .agg #[.int .i8 t371, .int .i8 t372, .int .i8 t373]), (10, .agg #[.int .i8 t374, .int .i8 t375, .int .i8 t376]), (5, .pointer (some ⟨s_.1, 0, none⟩)), (6, .pointer (some ⟨s_.2, 0, none⟩))]) (fun s_ w' => (w'.cell? ⟨gb369, 0, none⟩ = some (.int .i8 a0_0) ∧ w'.cell? ⟨gb369, 1, none⟩ = some (.int .i8 a0_1) ∧ w'.cell? ⟨gb369, 2, none⟩ = some (.int .i8 a0_2) ∧ w'.cell? ⟨gb370, 0, none⟩ = some (.int .i8 a1_0) ∧ w'.cell? ⟨gb370, 1, none⟩ = some (.int .i8 a1_1) ∧ w'.cell? ⟨gb370, 2, none⟩ = some (.int .i8 a1_2)) ∧ (w'.heap[gb369]? = some (.cells #[.int .i8 a0_0, .int .i8 a0_1, .int .i8 a0_2] 64 (0, 0))) ∧ (w'.heap[gb370]? = some (.cells #[.int .i8 a1_0, .int .i8 a1_1, .int .i8 a1_2] 64 (0, 0))) ∧ (w'.heap[s_.1]? = some (.cells #[.int .i8 0, .int .i8 0, .int .i8 0] 64 (0, 0))) ∧ (w'.heap[s_.2]? = some (.cells #[.int .i8 0, .int .i8 0, .int .i8 0] 64 (0, 0))) ∧ (w.heap.size ≤ s_.1) ∧ (w.heap.size ≤ s_.1) ∧ (gb369 ≠ s_.1) ∧ (s_.1 ≠ gb369) ∧ (gb370 ≠ s_.1) ∧ (s_.1 ≠ gb370) ∧ (s_.2 ≠ s_.1) ∧ (s_.1 ≠ s_.2) ∧ (w.heap.size ≤ s_.2) ∧ (w.heap.size ≤ s_.2) ∧ (gb369 ≠ s_.2) ∧ (s_.2 ≠ gb369) ∧ (gb370 ≠ s_.2) ∧ (s_.2 ≠ gb370) ∧ (Below w.heap.size w w')) ?_ ?_
  rotate_left
  · intro hJ1_3_4_5
    refine join_ (σ := Nat) 3 #[true, true, true, true, true, false, false, false] (fun s_ => [(8, .agg #[.int .i8 t371, .int .i8 t372, .int .i8 t373]), (10, .agg #[.int .i8 t374, .int .i8 t375, .int .i8 t376]), (5, .pointer (some ⟨s_, 0, none⟩))]) (fun s_ w' => (w'.cell? ⟨gb369, 0, none⟩ = some (.int .i8 a0_0) ∧ w'.cell? ⟨gb369, 1, none⟩ = some (.int .i8 a0_1) ∧ w'.cell? ⟨gb369, 2, none⟩ = some (.int .i8 a0_2) ∧ w'.cell? ⟨gb370, 0, none⟩ = some (.int .i8 a1_0) ∧ w'.cell? ⟨gb370, 1, none⟩ = some (.int .i8 a1_1) ∧ w'.cell? ⟨gb370, 2, none⟩ = some (.int .i8 a1_2)) ∧ (w'.heap[gb369]? = some (.cells #[.int .i8 a0_0, .int .i8 a0_1, .int .i8 a0_2] 64 (0, 0))) ∧ (w'.heap[gb370]? = some (.cells #[.int .i8 a1_0, .int .i8 a1_1, .int .i8 a1_2] 64 (0, 0))) ∧ (w'.heap[s_]? = some (.cells #[.int .i8 0, .int .i8 0, .int .i8 0] 64 (0, 0))) ∧ (w.heap.size ≤ s_) ∧ (w.heap.size ≤ s_) ∧ (gb369 ≠ s_) ∧ (s_ ≠ gb369) ∧ (gb370 ≠ s_) ∧ (s_ ≠ gb370) ∧ (Below w.heap.size w w')) ?_ ?_
    rotate_left
    · intro hJ1_3_4
      refine join_ (σ := Nat) 3 #[true, true, true, true, false, true, false, false] (fun s_ => [(8, .agg #[.int .i8 t371, .int .i8 t372, .int .i8 t373]), (10, .agg #[.int .i8 t374, .int .i8 t375, .int .i8 t376]), (6, .pointer (some ⟨s_, 0, none⟩))]) (fun s_ w' => (w'.cell? ⟨gb369, 0, none⟩ = some (.int .i8 a0_0) ∧ w'.cell? ⟨gb369, 1, none⟩ = some (.int .i8 a0_1) ∧ w'.cell? ⟨gb369, 2, none⟩ = some (.int .i8 a0_2) ∧ w'.cell? ⟨gb370, 0, none⟩ = some (.int .i8 a1_0) ∧ w'.cell? ⟨gb370, 1, none⟩ = some (.int .i8 a1_1) ∧ w'.cell? ⟨gb370, 2, none⟩ = some (.int .i8 a1_2)) ∧ (w'.heap[gb369]? = some (.cells #[.int .i8 a0_0, .int .i8 a0_1, .int .i8 a0_2] 64 (0, 0))) ∧ (w'.heap[gb370]? = some (.cells #[.int .i8 a1_0, .int .i8 a1_1, .int .i8 a1_2] 64 (0, 0))) ∧ (w'.heap[s_]? = some (.cells #[.int .i8 0, .int .i8 0, .int .i8 0] 64 (0, 0))) ∧ (w.heap.size ≤ s_) ∧ (w.heap.size ≤ s_) ∧ (gb369 ≠ s_) ∧ (s_ ≠ gb369) ∧ (gb370 ≠ s_) ∧ (s_ ≠ gb370) ∧ (Below w.heap.size w w')) ?_ ?_
      rotate_left
      · intro hJ1_3_5
        refine join_ (σ := Nat × Nat) 3 #[true, true, true, false, true, true, false, false] (fun s_ => [(8, .agg #[.int .i8 t371, .int .i8 t372, .int .i8 t373]), (5, .pointer (some ⟨s_.1, 0, none⟩)), (6, .pointer (some ⟨s_.2, 0, none⟩))]) (fun s_ w' => (w'.cell? ⟨gb369, 0, none⟩ = some (.int .i8 a0_0) ∧ w'.cell? ⟨gb369, 1, none⟩ = some (.int .i8 a0_1) ∧ w'.cell? ⟨gb369, 2, none⟩ = some (.int .i8 a0_2) ∧ w'.cell? ⟨gb370, 0, none⟩ = some (.int .i8 a1_0) ∧ w'.cell? ⟨gb370, 1, none⟩ = some (.int .i8 a1_1) ∧ w'.cell? ⟨gb370, 2, none⟩ = some (.int .i8 a1_2)) ∧ (w'.heap[gb369]? = some (.cells #[.int .i8 a0_0, .int .i8 a0_1, .int .i8 a0_2] 64 (0, 0))) ∧ (w'.heap[gb370]? = some (.cells #[.int .i8 a1_0, .int .i8 a1_1, .int .i8 a1_2] 64 (0, 0))) ∧ (w'.heap[s_.1]? = some (.cells #[.int .i8 0, .int .i8 0, .int .i8 0] 64 (0, 0))) ∧ (w'.heap[s_.2]? = some (.cells #[.int .i8 0, .int .i8 0, .int .i8 0] 64 (0, 0))) ∧ (w.heap.size ≤ s_.1) ∧ (w.heap.size ≤ s_.1) ∧ (gb369 ≠ s_.1) ∧ (s_.1 ≠ gb369) ∧ (gb370 ≠ s_.1) ∧ (s_.1 ≠ gb370) ∧ (s_.2 ≠ s_.1) ∧ (s_.1 ≠ s_.2) ∧ (w.heap.size ≤ s_.2) ∧ (w.heap.size ≤ s_.2) ∧ (gb369 ≠ s_.2) ∧ (s_.2 ≠ gb369) ∧ (gb370 ≠ s_.2) ∧ (s_.2 ≠ gb370) ∧ (Below w.heap.size w w')) ?_ ?_
        rotate_left
        · intro hJ1_4_5
          refine join_ (σ := Unit) 4 #[true, true, true, true, false, false, false, false] (fun s_ => [(8, .agg #[.int .i8 t371, .int .i8 t372, .int .i8 t373]), (10, .agg #[.int .i8 t374, .int .i8 t375, .int .i8 t376])]) (fun s_ w' => (w'.cell? ⟨gb369, 0, none⟩ = some (.int .i8 a0_0) ∧ w'.cell? ⟨gb369, 1, none⟩ = some (.int .i8 a0_1) ∧ w'.cell? ⟨gb369, 2, none⟩ = some (.int .i8 a0_2) ∧ w'.cell? ⟨gb370, 0, none⟩ = some (.int .i8 a1_0) ∧ w'.cell? ⟨gb370, 1, none⟩ = some (.int .i8 a1_1) ∧ w'.cell? ⟨gb370, 2, none⟩ = some (.int .i8 a1_2)) ∧ (w'.heap[gb369]? = some (.cells #[.int .i8 a0_0, .int .i8 a0_1, .int .i8 a0_2] 64 (0, 0))) ∧ (w'.heap[gb370]? = some (.cells #[.int .i8 a1_0, .int .i8 a1_1, .int .i8 a1_2] 64 (0, 0))) ∧ (Below w.heap.size w w')) ?_ ?_
          rotate_left
          · intro hJ1_3
            refine join_ (σ := Nat) 4 #[true, true, true, false, true, false, false, false] (fun s_ => [(8, .agg #[.int .i8 t371, .int .i8 t372, .int .i8 t373]), (5, .pointer (some ⟨s_, 0, none⟩))]) (fun s_ w' => (w'.cell? ⟨gb369, 0, none⟩ = some (.int .i8 a0_0) ∧ w'.cell? ⟨gb369, 1, none⟩ = some (.int .i8 a0_1) ∧ w'.cell? ⟨gb369, 2, none⟩ = some (.int .i8 a0_2) ∧ w'.cell? ⟨gb370, 0, none⟩ = some (.int .i8 a1_0) ∧ w'.cell? ⟨gb370, 1, none⟩ = some (.int .i8 a1_1) ∧ w'.cell? ⟨gb370, 2, none⟩ = some (.int .i8 a1_2)) ∧ (w'.heap[gb369]? = some (.cells #[.int .i8 a0_0, .int .i8 a0_1, .int .i8 a0_2] 64 (0, 0))) ∧ (w'.heap[gb370]? = some (.cells #[.int .i8 a1_0, .int .i8 a1_1, .int .i8 a1_2] 64 (0, 0))) ∧ (w'.heap[s_]? = some (.cells #[.int .i8 0, .int .i8 0, .int .i8 0] 64 (0, 0))) ∧ (w.heap.size ≤ s_) ∧ (w.heap.size ≤ s_) ∧ (gb369 ≠ s_) ∧ (s_ ≠ gb369) ∧ (gb370 ≠ s_) ∧ (s_ ≠ gb370) ∧ (Below w.heap.size w w')) ?_ ?_
            rotate_left
            · intro hJ1_4
              refine join_ (σ := Nat) 4 #[true, true, true, false, false, true, false, false] (fun s_ => [(8, .agg #[.int .i8 t371, .int .i8 t372, .int .i8 t373]), (6, .pointer (some ⟨s_, 0, none⟩))]) (fun s_ w' => (w'.cell? ⟨gb369, 0, none⟩ = some (.int .i8 a0_0) ∧ w'.cell? ⟨gb369, 1, none⟩ = some (.int .i8 a0_1) ∧ w'.cell? ⟨gb369, 2, none⟩ = some (.int .i8 a0_2) ∧ w'.cell? ⟨gb370, 0, none⟩ = some (.int .i8 a1_0) ∧ w'.cell? ⟨gb370, 1, none⟩ = some (.int .i8 a1_1) ∧ w'.cell? ⟨gb370, 2, none⟩ = some (.int .i8 a1_2)) ∧ (w'.heap[gb369]? = some (.cells #[.int .i8 a0_0, .int .i8 a0_1, .int .i8 a0_2] 64 (0, 0))) ∧ (w'.heap[gb370]? = some (.cells #[.int .i8 a1_0, .int .i8 a1_1, .int .i8 a1_2] 64 (0, 0))) ∧ (w'.heap[s_]? = some (.cells #[.int .i8 0, .int .i8 0, .int .i8 0] 64 (0, 0))) ∧ (w.heap.size ≤ s_) ∧ (w.heap.size ≤ s_) ∧ (gb369 ≠ s_) ∧ (s_ ≠ gb369) ∧ (gb370 ≠ s_) ∧ (s_ ≠ gb370) ∧ (Below w.heap.size w w')) ?_ ?_
              rotate_left
              · intro hJ1_5
                refine join_ (σ := Nat × Nat) 4 #[true, false, true, false, true, true, false, false] (fun s_ => [(5, .pointer (some ⟨s_.1, 0, none⟩)), (6, .pointer (some ⟨s_.2, 0, none⟩))]) (fun s_ w' => (w'.cell? ⟨gb369, 0, none⟩ = some (.int .i8 a0_0) ∧ w'.cell? ⟨gb369, 1, none⟩ = some (.int .i8 a0_1) ∧ w'.cell? ⟨gb369, 2, none⟩ = some (.int .i8 a0_2) ∧ w'.cell? ⟨gb370, 0, none⟩ = some (.int .i8 a1_0) ∧ w'.cell? ⟨gb370, 1, none⟩ = some (.int .i8 a1_1) ∧ w'.cell? ⟨gb370, 2, none⟩ = some (.int .i8 a1_2)) ∧ (w'.heap[gb369]? = some (.cells #[.int .i8 a0_0, .int .i8 a0_1, .int .i8 a0_2] 64 (0, 0))) ∧ (w'.heap[gb370]? = some (.cells #[.int .i8 a1_0, .int .i8 a1_1, .int .i8 a1_2] 64 (0, 0))) ∧ (w'.heap[s_.1]? = some (.cells #[.int .i8 0, .int .i8 0, .int .i8 0] 64 (0, 0))) ∧ (w'.heap[s_.2]? = some (.cells #[.int .i8 0, .int .i8 0, .int .i8 0] 64 (0, 0))) ∧ (w.heap.size ≤ s_.1) ∧ (w.heap.size ≤ s_.1) ∧ (gb369 ≠ s_.1) ∧ (s_.1 ≠ gb369) ∧ (gb370 ≠ s_.1) ∧ (s_.1 ≠ gb370) ∧ (s_.2 ≠ s_.1) ∧ (s_.1 ≠ s_.2) ∧ (w.heap.size ≤ s_.2) ∧ (w.heap.size ≤ s_.2) ∧ (gb369 ≠ s_.2) ∧ (s_.2 ≠ gb369) ∧ (gb370 ≠ s_.2) ∧ (s_.2 ≠ gb370) ∧ (Below w.heap.size w w')) ?_ ?_
                rotate_left
                · intro hJ4_5
                  refine join_ (σ := Unit) 5 #[true, true, true, false, false, false, false, false] (fun s_ => [(8, .agg #[.int .i8 t371, .int .i8 t372, .int .i8 t373])]) (fun s_ w' => (w'.cell? ⟨gb369, 0, none⟩ = some (.int .i8 a0_0) ∧ w'.cell? ⟨gb369, 1, none⟩ = some (.int .i8 a0_1) ∧ w'.cell? ⟨gb369, 2, none⟩ = some (.int .i8 a0_2) ∧ w'.cell? ⟨gb370, 0, none⟩ = some (.int .i8 a1_0) ∧ w'.cell? ⟨gb370, 1, none⟩ = some (.int .i8 a1_1) ∧ w'.cell? ⟨gb370, 2, none⟩ = some (.int .i8 a1_2)) ∧ (w'.heap[gb369]? = some (.cells #[.int .i8 a0_0, .int .i8 a0_1, .int .i8 a0_2] 64 (0, 0))) ∧ (w'.heap[gb370]? = some (.cells #[.int .i8 a1_0, .int .i8 a1_1, .int .i8 a1_2] 64 (0, 0))) ∧ (Below w.heap.size w w')) ?_ ?_
                  rotate_left
                  · intro hJ1
                    refine join_ (σ := Nat) 5 #[true, false, true, false, true, false, false, false] (fun s_ => [(5, .pointer (some ⟨s_, 0, none⟩))]) (fun s_ w' => (w'.cell? ⟨gb369, 0, none⟩ = some (.int .i8 a0_0) ∧ w'.cell? ⟨gb369, 1, none⟩ = some (.int .i8 a0_1) ∧ w'.cell? ⟨gb369, 2, none⟩ = some (.int .i8 a0_2) ∧ w'.cell? ⟨gb370, 0, none⟩ = some (.int .i8 a1_0) ∧ w'.cell? ⟨gb370, 1, none⟩ = some (.int .i8 a1_1) ∧ w'.cell? ⟨gb370, 2, none⟩ = some (.int .i8 a1_2)) ∧ (w'.heap[gb369]? = some (.cells #[.int .i8 a0_0, .int .i8 a0_1, .int .i8 a0_2] 64 (0, 0))) ∧ (w'.heap[gb370]? = some (.cells #[.int .i8 a1_0, .int .i8 a1_1, .int .i8 a1_2] 64 (0, 0))) ∧ (w'.heap[s_]? = some (.cells #[.int .i8 0, .int .i8 0, .int .i8 0] 64 (0, 0))) ∧ (w.heap.size ≤ s_) ∧ (w.heap.size ≤ s_) ∧ (gb369 ≠ s_) ∧ (s_ ≠ gb369) ∧ (gb370 ≠ s_) ∧ (s_ ≠ gb370) ∧ (Below w.heap.size w w')) ?_ ?_
                    rotate_left
                    · intro hJ4
                      refine join_ (σ := Nat) 5 #[true, false, true, false, false, true, false, false] (fun s_ => [(6, .pointer (some ⟨s_, 0, none⟩))]) (fun s_ w' => (w'.cell? ⟨gb369, 0, none⟩ = some (.int .i8 a0_0) ∧ w'.cell? ⟨gb369, 1, none⟩ = some (.int .i8 a0_1) ∧ w'.cell? ⟨gb369, 2, none⟩ = some (.int .i8 a0_2) ∧ w'.cell? ⟨gb370, 0, none⟩ = some (.int .i8 a1_0) ∧ w'.cell? ⟨gb370, 1, none⟩ = some (.int .i8 a1_1) ∧ w'.cell? ⟨gb370, 2, none⟩ = some (.int .i8 a1_2)) ∧ (w'.heap[gb369]? = some (.cells #[.int .i8 a0_0, .int .i8 a0_1, .int .i8 a0_2] 64 (0, 0))) ∧ (w'.heap[gb370]? = some (.cells #[.int .i8 a1_0, .int .i8 a1_1, .int .i8 a1_2] 64 (0, 0))) ∧ (w'.heap[s_]? = some (.cells #[.int .i8 0, .int .i8 0, .int .i8 0] 64 (0, 0))) ∧ (w.heap.size ≤ s_) ∧ (w.heap.size ≤ s_) ∧ (gb369 ≠ s_) ∧ (s_ ≠ gb369) ∧ (gb370 ≠ s_) ∧ (s_ ≠ gb370) ∧ (Below w.heap.size w w')) ?_ ?_
                      rotate_left
                      · intro hJ5
                        refine three_ (i := 1) (j := 4) (k := 5) (Ni := some 8) (Nj := some 5) (Nk := some 6) #[true, true, true, false, false, false, false, false] #[true, false, true, false, true, false, false, false] #[true, false, true, false, false, true, false, false] rfl rfl rfl rfl rfl rfl (three_of HT_.out (by kernel_rfl)) (by decide) (by decide) (by decide) (fun K hK => ?_) (fun K hK => ?_) (fun K hK => ?_)
                        · skip
                          refine goes_ Try.func63 (by kernel_rfl) rfl #[.agg #[.int .i8 a0_0, .int .i8 a0_1, .int .i8 a0_2]] (by rfl) rfl rfl (by (try simp only [List.map_toArray, List.map_cons, List.map_nil]); first | done | rfl | (simp only [List.length_drop, List.length_take]; rfl)) ?_
                          with_reducible refine (impl_Box_sorted.calls k a0_0 a0_1 a0_2 t371 t372 t373 _ A3.out).mono ?_
                          rintro e w10 ⟨rfl, hb⟩
                          refine ⟨_, rfl, ?_⟩
                          have n0_ := Aside0.mk (blk_below (g := gb369) (o := .cells #[.int .i8 a0_0, .int .i8 a0_1, .int .i8 a0_2] 64 (0, 0)) (by (with_reducible repeat (first | refine blk_drewN ?_ _ | refine blk_drew ?_ | refine blk_alloc ?_ _)); exact BK369.out) hb)
                          have n1_ := Aside0.mk (blk_below (g := gb370) (o := .cells #[.int .i8 a1_0, .int .i8 a1_1, .int .i8 a1_2] 64 (0, 0)) (by (with_reducible repeat (first | refine blk_drewN ?_ _ | refine blk_drew ?_ | refine blk_alloc ?_ _)); exact BK370.out) hb)
                          have n2_ := Aside0.mk (below_step (by repeat (first | (with_reducible first | exact HB.out | apply below_alloc | apply pw_below_drewN | apply below_drew1 | refine below_set ?_ GE369.out | refine below_set ?_ GE370.out) | exact HB.out)) hb)
                          clear BK369
                          clear BK370
                          clear HB
                          have BK369 := n0_
                          have BK370 := n1_
                          have HB := n2_
                          clear n0_ n1_ n2_
                          (try clear hb)
                          (try clear hb2)
                          (try clear hk)
                          (try clear hi)
                          refine hK.out _ _ ⟨(blk_cell BK369.out 0).trans rfl, (blk_cell BK369.out 1).trans rfl, (blk_cell BK369.out 2).trans rfl, (blk_cell BK370.out 0).trans rfl, (blk_cell BK370.out 1).trans rfl, (blk_cell BK370.out 2).trans rfl⟩ (fun hHeld => ?_)
                          clear hK K
                          refine norm_ (a' := ?_) ?_ ?_
                          rotate_left
                          · show Act.put _ (some 8) _ = _
                            simp only [Act.put, List.setIfInBounds_toArray, List.set_cons_zero, List.set_cons_succ, i64_w, i32_w]
                            rfl
                          exact norm_ (by first | (simp only [putAll, Act.put, List.setIfInBounds_toArray, List.set_cons_zero, List.set_cons_succ]; done) | (simp only [putAll, Act.put, List.setIfInBounds_toArray, List.set_cons_zero, List.set_cons_succ]; rfl)) (hJ1 () _ ⟨hHeld, (by (with_reducible repeat (first | refine blk_drewN ?_ _ | refine blk_drew ?_ | refine blk_alloc ?_ _)); exact BK369.out), (by (with_reducible repeat (first | refine blk_drewN ?_ _ | refine blk_drew ?_ | refine blk_alloc ?_ _)); exact BK370.out), (by repeat (first | (with_reducible first | exact HB.out | apply below_alloc | apply pw_below_drewN | apply below_drew1 | refine below_set ?_ GE369.out | refine below_set ?_ GE370.out) | exact HB.out))⟩)
                        · skip
                          refine box_step ?hg (N := 5) ?hd (cs := #[.int .i8 0, .int .i8 0, .int .i8 0]) (t := 64) ?hr ?_; (case hd => rfl); (case hg => rfl); (case hr => first | (go_simp; done) | (go_simp; rfl))
                          intro gb377 hg w10 hbox hb
                          have n0_ := Aside0.mk (blk_below (g := gb369) (o := .cells #[.int .i8 a0_0, .int .i8 a0_1, .int .i8 a0_2] 64 (0, 0)) (by (with_reducible repeat (first | refine blk_drewN ?_ _ | refine blk_drew ?_ | refine blk_alloc ?_ _)); exact BK369.out) hb)
                          have n1_ := Aside0.mk (blk_below (g := gb370) (o := .cells #[.int .i8 a1_0, .int .i8 a1_1, .int .i8 a1_2] 64 (0, 0)) (by (with_reducible repeat (first | refine blk_drewN ?_ _ | refine blk_drew ?_ | refine blk_alloc ?_ _)); exact BK370.out) hb)
                          have n2_ := Aside0.mk (below_step (by repeat (first | (with_reducible first | exact HB.out | apply below_alloc | apply pw_below_drewN | apply below_drew1 | refine below_set ?_ GE369.out | refine below_set ?_ GE370.out) | exact HB.out)) hb)
                          have n3_ := Aside0.mk (hbox)
                          have n4_ := Aside0.mk ((by rw [hg]; exact (below_size (by repeat (first | (with_reducible first | exact HB.out | apply below_alloc | apply pw_below_drewN | apply below_drew1 | refine below_set ?_ GE369.out | refine below_set ?_ GE370.out) | exact HB.out))) : w.heap.size ≤ gb377))
                          have n5_ := Aside0.mk ((by rw [hg]; exact (below_size (by repeat (first | (with_reducible first | exact HB.out | apply below_alloc | apply pw_below_drewN | apply below_drew1 | refine below_set ?_ GE369.out | refine below_set ?_ GE370.out) | exact HB.out))) : w.heap.size ≤ gb377))
                          have n6_ := Aside0.mk ((by rw [hg]; exact Nat.ne_of_lt (blk_lt (g := gb369) (o := .cells #[.int .i8 a0_0, .int .i8 a0_1, .int .i8 a0_2] 64 (0, 0)) (by (with_reducible repeat (first | refine blk_drewN ?_ _ | refine blk_drew ?_ | refine blk_alloc ?_ _)); exact BK369.out)) : gb369 ≠ gb377))
                          have n7_ := Aside0.mk ((by rw [hg]; exact Nat.ne_of_gt (blk_lt (g := gb369) (o := .cells #[.int .i8 a0_0, .int .i8 a0_1, .int .i8 a0_2] 64 (0, 0)) (by (with_reducible repeat (first | refine blk_drewN ?_ _ | refine blk_drew ?_ | refine blk_alloc ?_ _)); exact BK369.out)) : gb377 ≠ gb369))
                          have n8_ := Aside0.mk ((by rw [hg]; exact Nat.ne_of_lt (blk_lt (g := gb370) (o := .cells #[.int .i8 a1_0, .int .i8 a1_1, .int .i8 a1_2] 64 (0, 0)) (by (with_reducible repeat (first | refine blk_drewN ?_ _ | refine blk_drew ?_ | refine blk_alloc ?_ _)); exact BK370.out)) : gb370 ≠ gb377))
                          have n9_ := Aside0.mk ((by rw [hg]; exact Nat.ne_of_gt (blk_lt (g := gb370) (o := .cells #[.int .i8 a1_0, .int .i8 a1_1, .int .i8 a1_2] 64 (0, 0)) (by (with_reducible repeat (first | refine blk_drewN ?_ _ | refine blk_drew ?_ | refine blk_alloc ?_ _)); exact BK370.out)) : gb377 ≠ gb370))
                          clear BK369
                          clear BK370
                          clear HB
                          have BK369 := n0_
                          have BK370 := n1_
                          have HB := n2_
                          have BK377 := n3_
                          have GW377 := n4_
                          have GE377 := n5_
                          have NB369_377 := n6_
                          have NB377_369 := n7_
                          have NB370_377 := n8_
                          have NB377_370 := n9_
                          clear n0_ n1_ n2_ n3_ n4_ n5_ n6_ n7_ n8_ n9_
                          clear hb hbox hg
                          refine hK.out _ _ ⟨(blk_cell BK369.out 0).trans rfl, (blk_cell BK369.out 1).trans rfl, (blk_cell BK369.out 2).trans rfl, (blk_cell BK370.out 0).trans rfl, (blk_cell BK370.out 1).trans rfl, (blk_cell BK370.out 2).trans rfl⟩ (fun hHeld => ?_)
                          clear hK K
                          refine norm_ (a' := ?_) ?_ ?_
                          rotate_left
                          · show Act.put _ (some 5) _ = _
                            simp only [Act.put, List.setIfInBounds_toArray, List.set_cons_zero, List.set_cons_succ, i64_w, i32_w]
                            rfl
                          exact norm_ (by first | (simp only [putAll, Act.put, List.setIfInBounds_toArray, List.set_cons_zero, List.set_cons_succ]; done) | (simp only [putAll, Act.put, List.setIfInBounds_toArray, List.set_cons_zero, List.set_cons_succ]; rfl)) (hJ4 (gb377) _ ⟨hHeld, (by (with_reducible repeat (first | refine blk_drewN ?_ _ | refine blk_drew ?_ | refine blk_alloc ?_ _)); exact BK369.out), (by (with_reducible repeat (first | refine blk_drewN ?_ _ | refine blk_drew ?_ | refine blk_alloc ?_ _)); exact BK370.out), (by (with_reducible repeat (first | refine blk_drewN ?_ _ | refine blk_drew ?_ | refine blk_alloc ?_ _)); exact BK377.out), GW377.out, GE377.out, NB369_377.out, NB377_369.out, NB370_377.out, NB377_370.out, (by repeat (first | (with_reducible first | exact HB.out | apply below_alloc | apply pw_below_drewN | apply below_drew1 | refine below_set ?_ GE369.out | refine below_set ?_ GE370.out | refine below_set ?_ GE377.out) | exact HB.out))⟩)
                        · skip
                          refine box_step ?hg (N := 6) ?hd (cs := #[.int .i8 0, .int .i8 0, .int .i8 0]) (t := 64) ?hr ?_; (case hd => rfl); (case hg => rfl); (case hr => first | (go_simp; done) | (go_simp; rfl))
                          intro gb378 hg w10 hbox hb
                          have n0_ := Aside0.mk (blk_below (g := gb369) (o := .cells #[.int .i8 a0_0, .int .i8 a0_1, .int .i8 a0_2] 64 (0, 0)) (by (with_reducible repeat (first | refine blk_drewN ?_ _ | refine blk_drew ?_ | refine blk_alloc ?_ _)); exact BK369.out) hb)
                          have n1_ := Aside0.mk (blk_below (g := gb370) (o := .cells #[.int .i8 a1_0, .int .i8 a1_1, .int .i8 a1_2] 64 (0, 0)) (by (with_reducible repeat (first | refine blk_drewN ?_ _ | refine blk_drew ?_ | refine blk_alloc ?_ _)); exact BK370.out) hb)
                          have n2_ := Aside0.mk (below_step (by repeat (first | (with_reducible first | exact HB.out | apply below_alloc | apply pw_below_drewN | apply below_drew1 | refine below_set ?_ GE369.out | refine below_set ?_ GE370.out) | exact HB.out)) hb)
                          have n3_ := Aside0.mk (hbox)
                          have n4_ := Aside0.mk ((by rw [hg]; exact (below_size (by repeat (first | (with_reducible first | exact HB.out | apply below_alloc | apply pw_below_drewN | apply below_drew1 | refine below_set ?_ GE369.out | refine below_set ?_ GE370.out) | exact HB.out))) : w.heap.size ≤ gb378))
                          have n5_ := Aside0.mk ((by rw [hg]; exact (below_size (by repeat (first | (with_reducible first | exact HB.out | apply below_alloc | apply pw_below_drewN | apply below_drew1 | refine below_set ?_ GE369.out | refine below_set ?_ GE370.out) | exact HB.out))) : w.heap.size ≤ gb378))
                          have n6_ := Aside0.mk ((by rw [hg]; exact Nat.ne_of_lt (blk_lt (g := gb369) (o := .cells #[.int .i8 a0_0, .int .i8 a0_1, .int .i8 a0_2] 64 (0, 0)) (by (with_reducible repeat (first | refine blk_drewN ?_ _ | refine blk_drew ?_ | refine blk_alloc ?_ _)); exact BK369.out)) : gb369 ≠ gb378))
                          have n7_ := Aside0.mk ((by rw [hg]; exact Nat.ne_of_gt (blk_lt (g := gb369) (o := .cells #[.int .i8 a0_0, .int .i8 a0_1, .int .i8 a0_2] 64 (0, 0)) (by (with_reducible repeat (first | refine blk_drewN ?_ _ | refine blk_drew ?_ | refine blk_alloc ?_ _)); exact BK369.out)) : gb378 ≠ gb369))
                          have n8_ := Aside0.mk ((by rw [hg]; exact Nat.ne_of_lt (blk_lt (g := gb370) (o := .cells #[.int .i8 a1_0, .int .i8 a1_1, .int .i8 a1_2] 64 (0, 0)) (by (with_reducible repeat (first | refine blk_drewN ?_ _ | refine blk_drew ?_ | refine blk_alloc ?_ _)); exact BK370.out)) : gb370 ≠ gb378))
                          have n9_ := Aside0.mk ((by rw [hg]; exact Nat.ne_of_gt (blk_lt (g := gb370) (o := .cells #[.int .i8 a1_0, .int .i8 a1_1, .int .i8 a1_2] 64 (0, 0)) (by (with_reducible repeat (first | refine blk_drewN ?_ _ | refine blk_drew ?_ | refine blk_alloc ?_ _)); exact BK370.out)) : gb378 ≠ gb370))
                          clear BK369
                          clear BK370
                          clear HB
                          have BK369 := n0_
                          have BK370 := n1_
                          have HB := n2_
                          have BK378 := n3_
                          have GW378 := n4_
                          have GE378 := n5_
                          have NB369_378 := n6_
                          have NB378_369 := n7_
                          have NB370_378 := n8_
                          have NB378_370 := n9_
                          clear n0_ n1_ n2_ n3_ n4_ n5_ n6_ n7_ n8_ n9_
                          clear hb hbox hg
                          refine hK.out _ _ ⟨(blk_cell BK369.out 0).trans rfl, (blk_cell BK369.out 1).trans rfl, (blk_cell BK369.out 2).trans rfl, (blk_cell BK370.out 0).trans rfl, (blk_cell BK370.out 1).trans rfl, (blk_cell BK370.out 2).trans rfl⟩ (fun hHeld => ?_)
                          clear hK K
                          refine norm_ (a' := ?_) ?_ ?_
                          rotate_left
                          · show Act.put _ (some 6) _ = _
                            simp only [Act.put, List.setIfInBounds_toArray, List.set_cons_zero, List.set_cons_succ, i64_w, i32_w]
                            rfl
                          exact norm_ (by first | (simp only [putAll, Act.put, List.setIfInBounds_toArray, List.set_cons_zero, List.set_cons_succ]; done) | (simp only [putAll, Act.put, List.setIfInBounds_toArray, List.set_cons_zero, List.set_cons_succ]; rfl)) (hJ5 (gb378) _ ⟨hHeld, (by (with_reducible repeat (first | refine blk_drewN ?_ _ | refine blk_drew ?_ | refine blk_alloc ?_ _)); exact BK369.out), (by (with_reducible repeat (first | refine blk_drewN ?_ _ | refine blk_drew ?_ | refine blk_alloc ?_ _)); exact BK370.out), (by (with_reducible repeat (first | refine blk_drewN ?_ _ | refine blk_drew ?_ | refine blk_alloc ?_ _)); exact BK378.out), GW378.out, GE378.out, NB369_378.out, NB378_369.out, NB370_378.out, NB378_370.out, (by repeat (first | (with_reducible first | exact HB.out | apply below_alloc | apply pw_below_drewN | apply below_drew1 | refine below_set ?_ GE369.out | refine below_set ?_ GE370.out | refine below_set ?_ GE378.out) | exact HB.out))⟩)
                      · skip
                        rintro gb378 w11 ⟨hS_, h0_, h1_, h2_, h3_, h4_, h5_, h6_, h7_, h8_, h9_⟩
                        have n0_ : Aside0 (w11.heap[gb369]? = some (.cells #[.int .i8 a0_0, .int .i8 a0_1, .int .i8 a0_2] 64 (0, 0))) := ⟨h0_⟩
                        have n1_ : Aside0 (w11.heap[gb370]? = some (.cells #[.int .i8 a1_0, .int .i8 a1_1, .int .i8 a1_2] 64 (0, 0))) := ⟨h1_⟩
                        have n2_ : Aside0 (w11.heap[gb378]? = some (.cells #[.int .i8 0, .int .i8 0, .int .i8 0] 64 (0, 0))) := ⟨h2_⟩
                        have n3_ : Aside0 (w.heap.size ≤ gb378) := ⟨h3_⟩
                        have n4_ : Aside0 (w.heap.size ≤ gb378) := ⟨h4_⟩
                        have n5_ : Aside0 (gb369 ≠ gb378) := ⟨h5_⟩
                        have n6_ : Aside0 (gb378 ≠ gb369) := ⟨h6_⟩
                        have n7_ : Aside0 (gb370 ≠ gb378) := ⟨h7_⟩
                        have n8_ : Aside0 (gb378 ≠ gb370) := ⟨h8_⟩
                        have n9_ : Aside0 (Below w.heap.size w w11) := ⟨h9_⟩
                        clear BK369
                        clear BK370
                        clear HB
                        clear h0_ h1_ h2_ h3_ h4_ h5_ h6_ h7_ h8_ h9_
                        have BK369 := n0_
                        have BK370 := n1_
                        have BK378 := n2_
                        have GW378 := n3_
                        have GE378 := n4_
                        have NB369_378 := n5_
                        have NB378_369 := n6_
                        have NB370_378 := n7_
                        have NB378_370 := n8_
                        have HB := n9_
                        clear n0_ n1_ n2_ n3_ n4_ n5_ n6_ n7_ n8_ n9_
                        have hHeld : w11.cell? ⟨gb369, 0, none⟩ = some (.int .i8 a0_0) ∧ w11.cell? ⟨gb369, 1, none⟩ = some (.int .i8 a0_1) ∧ w11.cell? ⟨gb369, 2, none⟩ = some (.int .i8 a0_2) ∧ w11.cell? ⟨gb370, 0, none⟩ = some (.int .i8 a1_0) ∧ w11.cell? ⟨gb370, 1, none⟩ = some (.int .i8 a1_1) ∧ w11.cell? ⟨gb370, 2, none⟩ = some (.int .i8 a1_2) := hS_
                        refine norm_ (a' := ?_) ?_ ?_
                        rotate_left
                        · simp only [putAll, Act.put, List.setIfInBounds_toArray, List.set_cons_zero, List.set_cons_succ]
                          rfl
                        refine two_ (i := 1) (j := 4) (Ni := some 8) (Nj := some 5) #[true, true, true, false, false, true, false, false] #[true, false, true, false, true, true, false, false] rfl rfl rfl rfl (two_of HT_.out (by kernel_rfl)) (by decide) (by decide) (fun K hK => ?_) (fun K hK => ?_)
                        · skip
                          refine goes_ Try.func63 (by kernel_rfl) rfl #[.agg #[.int .i8 a0_0, .int .i8 a0_1, .int .i8 a0_2]] (by rfl) rfl rfl (by (try simp only [List.map_toArray, List.map_cons, List.map_nil]); first | done | rfl | (simp only [List.length_drop, List.length_take]; rfl)) ?_
                          with_reducible refine (impl_Box_sorted.calls k a0_0 a0_1 a0_2 t371 t372 t373 _ A3.out).mono ?_
                          rintro e w12 ⟨rfl, hb⟩
                          refine ⟨_, rfl, ?_⟩
                          have n0_ := Aside0.mk (blk_below (g := gb369) (o := .cells #[.int .i8 a0_0, .int .i8 a0_1, .int .i8 a0_2] 64 (0, 0)) (by (with_reducible repeat (first | refine blk_drewN ?_ _ | refine blk_drew ?_ | refine blk_alloc ?_ _)); exact BK369.out) hb)
                          have n1_ := Aside0.mk (blk_below (g := gb370) (o := .cells #[.int .i8 a1_0, .int .i8 a1_1, .int .i8 a1_2] 64 (0, 0)) (by (with_reducible repeat (first | refine blk_drewN ?_ _ | refine blk_drew ?_ | refine blk_alloc ?_ _)); exact BK370.out) hb)
                          have n2_ := Aside0.mk (blk_below (g := gb378) (o := .cells #[.int .i8 0, .int .i8 0, .int .i8 0] 64 (0, 0)) (by (with_reducible repeat (first | refine blk_drewN ?_ _ | refine blk_drew ?_ | refine blk_alloc ?_ _)); exact BK378.out) hb)
                          have n3_ := Aside0.mk (below_step (by repeat (first | (with_reducible first | exact HB.out | apply below_alloc | apply pw_below_drewN | apply below_drew1 | refine below_set ?_ GE369.out | refine below_set ?_ GE370.out | refine below_set ?_ GE378.out) | exact HB.out)) hb)
                          clear BK369
                          clear BK370
                          clear BK378
                          clear HB
                          have BK369 := n0_
                          have BK370 := n1_
                          have BK378 := n2_
                          have HB := n3_
                          clear n0_ n1_ n2_ n3_
                          (try clear hb)
                          (try clear hb2)
                          (try clear hk)
                          (try clear hi)
                          refine hK.out _ _ ⟨(blk_cell BK369.out 0).trans rfl, (blk_cell BK369.out 1).trans rfl, (blk_cell BK369.out 2).trans rfl, (blk_cell BK370.out 0).trans rfl, (blk_cell BK370.out 1).trans rfl, (blk_cell BK370.out 2).trans rfl⟩ (fun hHeld => ?_)
                          clear hK K
                          refine norm_ (a' := ?_) ?_ ?_
                          rotate_left
                          · show Act.put _ (some 8) _ = _
                            simp only [Act.put, List.setIfInBounds_toArray, List.set_cons_zero, List.set_cons_succ, i64_w, i32_w]
                            rfl
                          exact norm_ (by first | (simp only [putAll, Act.put, List.setIfInBounds_toArray, List.set_cons_zero, List.set_cons_succ]; done) | (simp only [putAll, Act.put, List.setIfInBounds_toArray, List.set_cons_zero, List.set_cons_succ]; rfl)) (hJ1_5 (gb378) _ ⟨hHeld, (by (with_reducible repeat (first | refine blk_drewN ?_ _ | refine blk_drew ?_ | refine blk_alloc ?_ _)); exact BK369.out), (by (with_reducible repeat (first | refine blk_drewN ?_ _ | refine blk_drew ?_ | refine blk_alloc ?_ _)); exact BK370.out), (by (with_reducible repeat (first | refine blk_drewN ?_ _ | refine blk_drew ?_ | refine blk_alloc ?_ _)); exact BK378.out), GW378.out, GE378.out, NB369_378.out, NB378_369.out, NB370_378.out, NB378_370.out, (by repeat (first | (with_reducible first | exact HB.out | apply below_alloc | apply pw_below_drewN | apply below_drew1 | refine below_set ?_ GE369.out | refine below_set ?_ GE370.out | refine below_set ?_ GE378.out) | exact HB.out))⟩)
                        · skip
                          refine box_step ?hg (N := 5) ?hd (cs := #[.int .i8 0, .int .i8 0, .int .i8 0]) (t := 64) ?hr ?_; (case hd => rfl); (case hg => rfl); (case hr => first | (go_simp; done) | (go_simp; rfl))
                          intro gb377 hg w12 hbox hb
                          have n0_ := Aside0.mk (blk_below (g := gb369) (o := .cells #[.int .i8 a0_0, .int .i8 a0_1, .int .i8 a0_2] 64 (0, 0)) (by (with_reducible repeat (first | refine blk_drewN ?_ _ | refine blk_drew ?_ | refine blk_alloc ?_ _)); exact BK369.out) hb)
                          have n1_ := Aside0.mk (blk_below (g := gb370) (o := .cells #[.int .i8 a1_0, .int .i8 a1_1, .int .i8 a1_2] 64 (0, 0)) (by (with_reducible repeat (first | refine blk_drewN ?_ _ | refine blk_drew ?_ | refine blk_alloc ?_ _)); exact BK370.out) hb)
                          have n2_ := Aside0.mk (blk_below (g := gb378) (o := .cells #[.int .i8 0, .int .i8 0, .int .i8 0] 64 (0, 0)) (by (with_reducible repeat (first | refine blk_drewN ?_ _ | refine blk_drew ?_ | refine blk_alloc ?_ _)); exact BK378.out) hb)
                          have n3_ := Aside0.mk (below_step (by repeat (first | (with_reducible first | exact HB.out | apply below_alloc | apply pw_below_drewN | apply below_drew1 | refine below_set ?_ GE369.out | refine below_set ?_ GE370.out | refine below_set ?_ GE378.out) | exact HB.out)) hb)
                          have n4_ := Aside0.mk (hbox)
                          have n5_ := Aside0.mk ((by rw [hg]; exact (below_size (by repeat (first | (with_reducible first | exact HB.out | apply below_alloc | apply pw_below_drewN | apply below_drew1 | refine below_set ?_ GE369.out | refine below_set ?_ GE370.out | refine below_set ?_ GE378.out) | exact HB.out))) : w.heap.size ≤ gb377))
                          have n6_ := Aside0.mk ((by rw [hg]; exact (below_size (by repeat (first | (with_reducible first | exact HB.out | apply below_alloc | apply pw_below_drewN | apply below_drew1 | refine below_set ?_ GE369.out | refine below_set ?_ GE370.out | refine below_set ?_ GE378.out) | exact HB.out))) : w.heap.size ≤ gb377))
                          have n7_ := Aside0.mk ((by rw [hg]; exact Nat.ne_of_lt (blk_lt (g := gb369) (o := .cells #[.int .i8 a0_0, .int .i8 a0_1, .int .i8 a0_2] 64 (0, 0)) (by (with_reducible repeat (first | refine blk_drewN ?_ _ | refine blk_drew ?_ | refine blk_alloc ?_ _)); exact BK369.out)) : gb369 ≠ gb377))
                          have n8_ := Aside0.mk ((by rw [hg]; exact Nat.ne_of_gt (blk_lt (g := gb369) (o := .cells #[.int .i8 a0_0, .int .i8 a0_1, .int .i8 a0_2] 64 (0, 0)) (by (with_reducible repeat (first | refine blk_drewN ?_ _ | refine blk_drew ?_ | refine blk_alloc ?_ _)); exact BK369.out)) : gb377 ≠ gb369))
                          have n9_ := Aside0.mk ((by rw [hg]; exact Nat.ne_of_lt (blk_lt (g := gb370) (o := .cells #[.int .i8 a1_0, .int .i8 a1_1, .int .i8 a1_2] 64 (0, 0)) (by (with_reducible repeat (first | refine blk_drewN ?_ _ | refine blk_drew ?_ | refine blk_alloc ?_ _)); exact BK370.out)) : gb370 ≠ gb377))
                          have n10_ := Aside0.mk ((by rw [hg]; exact Nat.ne_of_gt (blk_lt (g := gb370) (o := .cells #[.int .i8 a1_0, .int .i8 a1_1, .int .i8 a1_2] 64 (0, 0)) (by (with_reducible repeat (first | refine blk_drewN ?_ _ | refine blk_drew ?_ | refine blk_alloc ?_ _)); exact BK370.out)) : gb377 ≠ gb370))
                          have n11_ := Aside0.mk ((by rw [hg]; exact Nat.ne_of_lt (blk_lt (g := gb378) (o := .cells #[.int .i8 0, .int .i8 0, .int .i8 0] 64 (0, 0)) (by (with_reducible repeat (first | refine blk_drewN ?_ _ | refine blk_drew ?_ | refine blk_alloc ?_ _)); exact BK378.out)) : gb378 ≠ gb377))
                          have n12_ := Aside0.mk ((by rw [hg]; exact Nat.ne_of_gt (blk_lt (g := gb378) (o := .cells #[.int .i8 0, .int .i8 0, .int .i8 0] 64 (0, 0)) (by (with_reducible repeat (first | refine blk_drewN ?_ _ | refine blk_drew ?_ | refine blk_alloc ?_ _)); exact BK378.out)) : gb377 ≠ gb378))
                          clear BK369
                          clear BK370
                          clear BK378
                          clear HB
                          have BK369 := n0_
                          have BK370 := n1_
                          have BK378 := n2_
                          have HB := n3_
                          have BK377 := n4_
                          have GW377 := n5_
                          have GE377 := n6_
                          have NB369_377 := n7_
                          have NB377_369 := n8_
                          have NB370_377 := n9_
                          have NB377_370 := n10_
                          have NB378_377 := n11_
                          have NB377_378 := n12_
                          clear n0_ n1_ n2_ n3_ n4_ n5_ n6_ n7_ n8_ n9_ n10_ n11_ n12_
                          clear hb hbox hg
                          refine hK.out _ _ ⟨(blk_cell BK369.out 0).trans rfl, (blk_cell BK369.out 1).trans rfl, (blk_cell BK369.out 2).trans rfl, (blk_cell BK370.out 0).trans rfl, (blk_cell BK370.out 1).trans rfl, (blk_cell BK370.out 2).trans rfl⟩ (fun hHeld => ?_)
                          clear hK K
                          refine norm_ (a' := ?_) ?_ ?_
                          rotate_left
                          · show Act.put _ (some 5) _ = _
                            simp only [Act.put, List.setIfInBounds_toArray, List.set_cons_zero, List.set_cons_succ, i64_w, i32_w]
                            rfl
                          exact norm_ (by first | (simp only [putAll, Act.put, List.setIfInBounds_toArray, List.set_cons_zero, List.set_cons_succ]; done) | (simp only [putAll, Act.put, List.setIfInBounds_toArray, List.set_cons_zero, List.set_cons_succ]; rfl)) (hJ4_5 (gb377, gb378) _ ⟨hHeld, (by (with_reducible repeat (first | refine blk_drewN ?_ _ | refine blk_drew ?_ | refine blk_alloc ?_ _)); exact BK369.out), (by (with_reducible repeat (first | refine blk_drewN ?_ _ | refine blk_drew ?_ | refine blk_alloc ?_ _)); exact BK370.out), (by (with_reducible repeat (first | refine blk_drewN ?_ _ | refine blk_drew ?_ | refine blk_alloc ?_ _)); exact BK377.out), (by (with_reducible repeat (first | refine blk_drewN ?_ _ | refine blk_drew ?_ | refine blk_alloc ?_ _)); exact BK378.out), GW377.out, GE377.out, NB369_377.out, NB377_369.out, NB370_377.out, NB377_370.out, NB378_377.out, NB377_378.out, GW378.out, GE378.out, NB369_378.out, NB378_369.out, NB370_378.out, NB378_370.out, (by repeat (first | (with_reducible first | exact HB.out | apply below_alloc | apply pw_below_drewN | apply below_drew1 | refine below_set ?_ GE369.out | refine below_set ?_ GE370.out | refine below_set ?_ GE378.out | refine below_set ?_ GE377.out) | exact HB.out))⟩)
                    · skip
                      rintro gb377 w11 ⟨hS_, h0_, h1_, h2_, h3_, h4_, h5_, h6_, h7_, h8_, h9_⟩
                      have n0_ : Aside0 (w11.heap[gb369]? = some (.cells #[.int .i8 a0_0, .int .i8 a0_1, .int .i8 a0_2] 64 (0, 0))) := ⟨h0_⟩
                      have n1_ : Aside0 (w11.heap[gb370]? = some (.cells #[.int .i8 a1_0, .int .i8 a1_1, .int .i8 a1_2] 64 (0, 0))) := ⟨h1_⟩
                      have n2_ : Aside0 (w11.heap[gb377]? = some (.cells #[.int .i8 0, .int .i8 0, .int .i8 0] 64 (0, 0))) := ⟨h2_⟩
                      have n3_ : Aside0 (w.heap.size ≤ gb377) := ⟨h3_⟩
                      have n4_ : Aside0 (w.heap.size ≤ gb377) := ⟨h4_⟩
                      have n5_ : Aside0 (gb369 ≠ gb377) := ⟨h5_⟩
                      have n6_ : Aside0 (gb377 ≠ gb369) := ⟨h6_⟩
                      have n7_ : Aside0 (gb370 ≠ gb377) := ⟨h7_⟩
                      have n8_ : Aside0 (gb377 ≠ gb370) := ⟨h8_⟩
                      have n9_ : Aside0 (Below w.heap.size w w11) := ⟨h9_⟩
                      clear BK369
                      clear BK370
                      clear HB
                      clear h0_ h1_ h2_ h3_ h4_ h5_ h6_ h7_ h8_ h9_
                      have BK369 := n0_
                      have BK370 := n1_
                      have BK377 := n2_
                      have GW377 := n3_
                      have GE377 := n4_
                      have NB369_377 := n5_
                      have NB377_369 := n6_
                      have NB370_377 := n7_
                      have NB377_370 := n8_
                      have HB := n9_
                      clear n0_ n1_ n2_ n3_ n4_ n5_ n6_ n7_ n8_ n9_
                      have hHeld : w11.cell? ⟨gb369, 0, none⟩ = some (.int .i8 a0_0) ∧ w11.cell? ⟨gb369, 1, none⟩ = some (.int .i8 a0_1) ∧ w11.cell? ⟨gb369, 2, none⟩ = some (.int .i8 a0_2) ∧ w11.cell? ⟨gb370, 0, none⟩ = some (.int .i8 a1_0) ∧ w11.cell? ⟨gb370, 1, none⟩ = some (.int .i8 a1_1) ∧ w11.cell? ⟨gb370, 2, none⟩ = some (.int .i8 a1_2) := hS_
                      refine norm_ (a' := ?_) ?_ ?_
                      rotate_left
                      · simp only [putAll, Act.put, List.setIfInBounds_toArray, List.set_cons_zero, List.set_cons_succ]
                        rfl
                      refine two_ (i := 1) (j := 5) (Ni := some 8) (Nj := some 6) #[true, true, true, false, true, false, false, false] #[true, false, true, false, true, true, false, false] rfl rfl rfl rfl (two_of HT_.out (by kernel_rfl)) (by decide) (by decide) (fun K hK => ?_) (fun K hK => ?_)
                      · skip
                        refine goes_ Try.func63 (by kernel_rfl) rfl #[.agg #[.int .i8 a0_0, .int .i8 a0_1, .int .i8 a0_2]] (by rfl) rfl rfl (by (try simp only [List.map_toArray, List.map_cons, List.map_nil]); first | done | rfl | (simp only [List.length_drop, List.length_take]; rfl)) ?_
                        with_reducible refine (impl_Box_sorted.calls k a0_0 a0_1 a0_2 t371 t372 t373 _ A3.out).mono ?_
                        rintro e w12 ⟨rfl, hb⟩
                        refine ⟨_, rfl, ?_⟩
                        have n0_ := Aside0.mk (blk_below (g := gb369) (o := .cells #[.int .i8 a0_0, .int .i8 a0_1, .int .i8 a0_2] 64 (0, 0)) (by (with_reducible repeat (first | refine blk_drewN ?_ _ | refine blk_drew ?_ | refine blk_alloc ?_ _)); exact BK369.out) hb)
                        have n1_ := Aside0.mk (blk_below (g := gb370) (o := .cells #[.int .i8 a1_0, .int .i8 a1_1, .int .i8 a1_2] 64 (0, 0)) (by (with_reducible repeat (first | refine blk_drewN ?_ _ | refine blk_drew ?_ | refine blk_alloc ?_ _)); exact BK370.out) hb)
                        have n2_ := Aside0.mk (blk_below (g := gb377) (o := .cells #[.int .i8 0, .int .i8 0, .int .i8 0] 64 (0, 0)) (by (with_reducible repeat (first | refine blk_drewN ?_ _ | refine blk_drew ?_ | refine blk_alloc ?_ _)); exact BK377.out) hb)
                        have n3_ := Aside0.mk (below_step (by repeat (first | (with_reducible first | exact HB.out | apply below_alloc | apply pw_below_drewN | apply below_drew1 | refine below_set ?_ GE369.out | refine below_set ?_ GE370.out | refine below_set ?_ GE377.out) | exact HB.out)) hb)
                        clear BK369
                        clear BK370
                        clear BK377
                        clear HB
                        have BK369 := n0_
                        have BK370 := n1_
                        have BK377 := n2_
                        have HB := n3_
                        clear n0_ n1_ n2_ n3_
                        (try clear hb)
                        (try clear hb2)
                        (try clear hk)
                        (try clear hi)
                        refine hK.out _ _ ⟨(blk_cell BK369.out 0).trans rfl, (blk_cell BK369.out 1).trans rfl, (blk_cell BK369.out 2).trans rfl, (blk_cell BK370.out 0).trans rfl, (blk_cell BK370.out 1).trans rfl, (blk_cell BK370.out 2).trans rfl⟩ (fun hHeld => ?_)
                        clear hK K
                        refine norm_ (a' := ?_) ?_ ?_
                        rotate_left
                        · show Act.put _ (some 8) _ = _
                          simp only [Act.put, List.setIfInBounds_toArray, List.set_cons_zero, List.set_cons_succ, i64_w, i32_w]
                          rfl
                        exact norm_ (by first | (simp only [putAll, Act.put, List.setIfInBounds_toArray, List.set_cons_zero, List.set_cons_succ]; done) | (simp only [putAll, Act.put, List.setIfInBounds_toArray, List.set_cons_zero, List.set_cons_succ]; rfl)) (hJ1_4 (gb377) _ ⟨hHeld, (by (with_reducible repeat (first | refine blk_drewN ?_ _ | refine blk_drew ?_ | refine blk_alloc ?_ _)); exact BK369.out), (by (with_reducible repeat (first | refine blk_drewN ?_ _ | refine blk_drew ?_ | refine blk_alloc ?_ _)); exact BK370.out), (by (with_reducible repeat (first | refine blk_drewN ?_ _ | refine blk_drew ?_ | refine blk_alloc ?_ _)); exact BK377.out), GW377.out, GE377.out, NB369_377.out, NB377_369.out, NB370_377.out, NB377_370.out, (by repeat (first | (with_reducible first | exact HB.out | apply below_alloc | apply pw_below_drewN | apply below_drew1 | refine below_set ?_ GE369.out | refine below_set ?_ GE370.out | refine below_set ?_ GE377.out) | exact HB.out))⟩)
                      · skip
                        refine box_step ?hg (N := 6) ?hd (cs := #[.int .i8 0, .int .i8 0, .int .i8 0]) (t := 64) ?hr ?_; (case hd => rfl); (case hg => rfl); (case hr => first | (go_simp; done) | (go_simp; rfl))
                        intro gb378 hg w12 hbox hb
                        have n0_ := Aside0.mk (blk_below (g := gb369) (o := .cells #[.int .i8 a0_0, .int .i8 a0_1, .int .i8 a0_2] 64 (0, 0)) (by (with_reducible repeat (first | refine blk_drewN ?_ _ | refine blk_drew ?_ | refine blk_alloc ?_ _)); exact BK369.out) hb)
                        have n1_ := Aside0.mk (blk_below (g := gb370) (o := .cells #[.int .i8 a1_0, .int .i8 a1_1, .int .i8 a1_2] 64 (0, 0)) (by (with_reducible repeat (first | refine blk_drewN ?_ _ | refine blk_drew ?_ | refine blk_alloc ?_ _)); exact BK370.out) hb)
                        have n2_ := Aside0.mk (blk_below (g := gb377) (o := .cells #[.int .i8 0, .int .i8 0, .int .i8 0] 64 (0, 0)) (by (with_reducible repeat (first | refine blk_drewN ?_ _ | refine blk_drew ?_ | refine blk_alloc ?_ _)); exact BK377.out) hb)
                        have n3_ := Aside0.mk (below_step (by repeat (first | (with_reducible first | exact HB.out | apply below_alloc | apply pw_below_drewN | apply below_drew1 | refine below_set ?_ GE369.out | refine below_set ?_ GE370.out | refine below_set ?_ GE377.out) | exact HB.out)) hb)
                        have n4_ := Aside0.mk (hbox)
                        have n5_ := Aside0.mk ((by rw [hg]; exact (below_size (by repeat (first | (with_reducible first | exact HB.out | apply below_alloc | apply pw_below_drewN | apply below_drew1 | refine below_set ?_ GE369.out | refine below_set ?_ GE370.out | refine below_set ?_ GE377.out) | exact HB.out))) : w.heap.size ≤ gb378))
                        have n6_ := Aside0.mk ((by rw [hg]; exact (below_size (by repeat (first | (with_reducible first | exact HB.out | apply below_alloc | apply pw_below_drewN | apply below_drew1 | refine below_set ?_ GE369.out | refine below_set ?_ GE370.out | refine below_set ?_ GE377.out) | exact HB.out))) : w.heap.size ≤ gb378))
                        have n7_ := Aside0.mk ((by rw [hg]; exact Nat.ne_of_lt (blk_lt (g := gb369) (o := .cells #[.int .i8 a0_0, .int .i8 a0_1, .int .i8 a0_2] 64 (0, 0)) (by (with_reducible repeat (first | refine blk_drewN ?_ _ | refine blk_drew ?_ | refine blk_alloc ?_ _)); exact BK369.out)) : gb369 ≠ gb378))
                        have n8_ := Aside0.mk ((by rw [hg]; exact Nat.ne_of_gt (blk_lt (g := gb369) (o := .cells #[.int .i8 a0_0, .int .i8 a0_1, .int .i8 a0_2] 64 (0, 0)) (by (with_reducible repeat (first | refine blk_drewN ?_ _ | refine blk_drew ?_ | refine blk_alloc ?_ _)); exact BK369.out)) : gb378 ≠ gb369))
                        have n9_ := Aside0.mk ((by rw [hg]; exact Nat.ne_of_lt (blk_lt (g := gb370) (o := .cells #[.int .i8 a1_0, .int .i8 a1_1, .int .i8 a1_2] 64 (0, 0)) (by (with_reducible repeat (first | refine blk_drewN ?_ _ | refine blk_drew ?_ | refine blk_alloc ?_ _)); exact BK370.out)) : gb370 ≠ gb378))
                        have n10_ := Aside0.mk ((by rw [hg]; exact Nat.ne_of_gt (blk_lt (g := gb370) (o := .cells #[.int .i8 a1_0, .int .i8 a1_1, .int .i8 a1_2] 64 (0, 0)) (by (with_reducible repeat (first | refine blk_drewN ?_ _ | refine blk_drew ?_ | refine blk_alloc ?_ _)); exact BK370.out)) : gb378 ≠ gb370))
                        have n11_ := Aside0.mk ((by rw [hg]; exact Nat.ne_of_lt (blk_lt (g := gb377) (o := .cells #[.int .i8 0, .int .i8 0, .int .i8 0] 64 (0, 0)) (by (with_reducible repeat (first | refine blk_drewN ?_ _ | refine blk_drew ?_ | refine blk_alloc ?_ _)); exact BK377.out)) : gb377 ≠ gb378))
                        have n12_ := Aside0.mk ((by rw [hg]; exact Nat.ne_of_gt (blk_lt (g := gb377) (o := .cells #[.int .i8 0, .int .i8 0, .int .i8 0] 64 (0, 0)) (by (with_reducible repeat (first | refine blk_drewN ?_ _ | refine blk_drew ?_ | refine blk_alloc ?_ _)); exact BK377.out)) : gb378 ≠ gb377))
                        clear BK369
                        clear BK370
                        clear BK377
                        clear HB
                        have BK369 := n0_
                        have BK370 := n1_
                        have BK377 := n2_
                        have HB := n3_
                        have BK378 := n4_
                        have GW378 := n5_
                        have GE378 := n6_
                        have NB369_378 := n7_
                        have NB378_369 := n8_
                        have NB370_378 := n9_
                        have NB378_370 := n10_
                        have NB377_378 := n11_
                        have NB378_377 := n12_
                        clear n0_ n1_ n2_ n3_ n4_ n5_ n6_ n7_ n8_ n9_ n10_ n11_ n12_
                        clear hb hbox hg
                        refine hK.out _ _ ⟨(blk_cell BK369.out 0).trans rfl, (blk_cell BK369.out 1).trans rfl, (blk_cell BK369.out 2).trans rfl, (blk_cell BK370.out 0).trans rfl, (blk_cell BK370.out 1).trans rfl, (blk_cell BK370.out 2).trans rfl⟩ (fun hHeld => ?_)
                        clear hK K
                        refine norm_ (a' := ?_) ?_ ?_
                        rotate_left
                        · show Act.put _ (some 6) _ = _
                          simp only [Act.put, List.setIfInBounds_toArray, List.set_cons_zero, List.set_cons_succ, i64_w, i32_w]
                          rfl
                        exact norm_ (by first | (simp only [putAll, Act.put, List.setIfInBounds_toArray, List.set_cons_zero, List.set_cons_succ]; done) | (simp only [putAll, Act.put, List.setIfInBounds_toArray, List.set_cons_zero, List.set_cons_succ]; rfl)) (hJ4_5 (gb377, gb378) _ ⟨hHeld, (by (with_reducible repeat (first | refine blk_drewN ?_ _ | refine blk_drew ?_ | refine blk_alloc ?_ _)); exact BK369.out), (by (with_reducible repeat (first | refine blk_drewN ?_ _ | refine blk_drew ?_ | refine blk_alloc ?_ _)); exact BK370.out), (by (with_reducible repeat (first | refine blk_drewN ?_ _ | refine blk_drew ?_ | refine blk_alloc ?_ _)); exact BK377.out), (by (with_reducible repeat (first | refine blk_drewN ?_ _ | refine blk_drew ?_ | refine blk_alloc ?_ _)); exact BK378.out), GW377.out, GE377.out, NB369_377.out, NB377_369.out, NB370_377.out, NB377_370.out, NB378_377.out, NB377_378.out, GW378.out, GE378.out, NB369_378.out, NB378_369.out, NB370_378.out, NB378_370.out, (by repeat (first | (with_reducible first | exact HB.out | apply below_alloc | apply pw_below_drewN | apply below_drew1 | refine below_set ?_ GE369.out | refine below_set ?_ GE370.out | refine below_set ?_ GE377.out | refine below_set ?_ GE378.out) | exact HB.out))⟩)
                  · skip
                    rintro _ w11 ⟨hS_, h0_, h1_, h2_⟩
                    have n0_ : Aside0 (w11.heap[gb369]? = some (.cells #[.int .i8 a0_0, .int .i8 a0_1, .int .i8 a0_2] 64 (0, 0))) := ⟨h0_⟩
                    have n1_ : Aside0 (w11.heap[gb370]? = some (.cells #[.int .i8 a1_0, .int .i8 a1_1, .int .i8 a1_2] 64 (0, 0))) := ⟨h1_⟩
                    have n2_ : Aside0 (Below w.heap.size w w11) := ⟨h2_⟩
                    clear BK369
                    clear BK370
                    clear HB
                    clear h0_ h1_ h2_
                    have BK369 := n0_
                    have BK370 := n1_
                    have HB := n2_
                    clear n0_ n1_ n2_
                    have hHeld : w11.cell? ⟨gb369, 0, none⟩ = some (.int .i8 a0_0) ∧ w11.cell? ⟨gb369, 1, none⟩ = some (.int .i8 a0_1) ∧ w11.cell? ⟨gb369, 2, none⟩ = some (.int .i8 a0_2) ∧ w11.cell? ⟨gb370, 0, none⟩ = some (.int .i8 a1_0) ∧ w11.cell? ⟨gb370, 1, none⟩ = some (.int .i8 a1_1) ∧ w11.cell? ⟨gb370, 2, none⟩ = some (.int .i8 a1_2) := hS_
                    refine norm_ (a' := ?_) ?_ ?_
                    rotate_left
                    · simp only [putAll, Act.put, List.setIfInBounds_toArray, List.set_cons_zero, List.set_cons_succ]
                      rfl
                    refine three_ (i := 3) (j := 4) (k := 5) (Ni := some 10) (Nj := some 5) (Nk := some 6) #[true, true, true, true, false, false, false, false] #[true, true, true, false, true, false, false, false] #[true, true, true, false, false, true, false, false] rfl rfl rfl rfl rfl rfl (three_of HT_.out (by kernel_rfl)) (by decide) (by decide) (by decide) (fun K hK => ?_) (fun K hK => ?_) (fun K hK => ?_)
                    · skip
                      refine goes_ Try.func63 (by kernel_rfl) rfl #[.agg #[.int .i8 a1_0, .int .i8 a1_1, .int .i8 a1_2]] (by rfl) rfl rfl (by (try simp only [List.map_toArray, List.map_cons, List.map_nil]); first | done | rfl | (simp only [List.length_drop, List.length_take]; rfl)) ?_
                      with_reducible refine (impl_Box_sorted.calls k a1_0 a1_1 a1_2 t374 t375 t376 _ A4.out).mono ?_
                      rintro e w12 ⟨rfl, hb⟩
                      refine ⟨_, rfl, ?_⟩
                      have n0_ := Aside0.mk (blk_below (g := gb369) (o := .cells #[.int .i8 a0_0, .int .i8 a0_1, .int .i8 a0_2] 64 (0, 0)) (by (with_reducible repeat (first | refine blk_drewN ?_ _ | refine blk_drew ?_ | refine blk_alloc ?_ _)); exact BK369.out) hb)
                      have n1_ := Aside0.mk (blk_below (g := gb370) (o := .cells #[.int .i8 a1_0, .int .i8 a1_1, .int .i8 a1_2] 64 (0, 0)) (by (with_reducible repeat (first | refine blk_drewN ?_ _ | refine blk_drew ?_ | refine blk_alloc ?_ _)); exact BK370.out) hb)
                      have n2_ := Aside0.mk (below_step (by repeat (first | (with_reducible first | exact HB.out | apply below_alloc | apply pw_below_drewN | apply below_drew1 | refine below_set ?_ GE369.out | refine below_set ?_ GE370.out) | exact HB.out)) hb)
                      clear BK369
                      clear BK370
                      clear HB
                      have BK369 := n0_
                      have BK370 := n1_
                      have HB := n2_
                      clear n0_ n1_ n2_
                      (try clear hb)
                      (try clear hb2)
                      (try clear hk)
                      (try clear hi)
                      refine hK.out _ _ ⟨(blk_cell BK369.out 0).trans rfl, (blk_cell BK369.out 1).trans rfl, (blk_cell BK369.out 2).trans rfl, (blk_cell BK370.out 0).trans rfl, (blk_cell BK370.out 1).trans rfl, (blk_cell BK370.out 2).trans rfl⟩ (fun hHeld => ?_)
                      clear hK K
                      refine norm_ (a' := ?_) ?_ ?_
                      rotate_left
                      · show Act.put _ (some 10) _ = _
                        simp only [Act.put, List.setIfInBounds_toArray, List.set_cons_zero, List.set_cons_succ, i64_w, i32_w]
                        rfl
                      exact norm_ (by first | (simp only [putAll, Act.put, List.setIfInBounds_toArray, List.set_cons_zero, List.set_cons_succ]; done) | (simp only [putAll, Act.put, List.setIfInBounds_toArray, List.set_cons_zero, List.set_cons_succ]; rfl)) (hJ1_3 () _ ⟨hHeld, (by (with_reducible repeat (first | refine blk_drewN ?_ _ | refine blk_drew ?_ | refine blk_alloc ?_ _)); exact BK369.out), (by (with_reducible repeat (first | refine blk_drewN ?_ _ | refine blk_drew ?_ | refine blk_alloc ?_ _)); exact BK370.out), (by repeat (first | (with_reducible first | exact HB.out | apply below_alloc | apply pw_below_drewN | apply below_drew1 | refine below_set ?_ GE369.out | refine below_set ?_ GE370.out) | exact HB.out))⟩)
                    · skip
                      refine box_step ?hg (N := 5) ?hd (cs := #[.int .i8 0, .int .i8 0, .int .i8 0]) (t := 64) ?hr ?_; (case hd => rfl); (case hg => rfl); (case hr => first | (go_simp; done) | (go_simp; rfl))
                      intro gb377 hg w12 hbox hb
                      have n0_ := Aside0.mk (blk_below (g := gb369) (o := .cells #[.int .i8 a0_0, .int .i8 a0_1, .int .i8 a0_2] 64 (0, 0)) (by (with_reducible repeat (first | refine blk_drewN ?_ _ | refine blk_drew ?_ | refine blk_alloc ?_ _)); exact BK369.out) hb)
                      have n1_ := Aside0.mk (blk_below (g := gb370) (o := .cells #[.int .i8 a1_0, .int .i8 a1_1, .int .i8 a1_2] 64 (0, 0)) (by (with_reducible repeat (first | refine blk_drewN ?_ _ | refine blk_drew ?_ | refine blk_alloc ?_ _)); exact BK370.out) hb)
                      have n2_ := Aside0.mk (below_step (by repeat (first | (with_reducible first | exact HB.out | apply below_alloc | apply pw_below_drewN | apply below_drew1 | refine below_set ?_ GE369.out | refine below_set ?_ GE370.out) | exact HB.out)) hb)
                      have n3_ := Aside0.mk (hbox)
                      have n4_ := Aside0.mk ((by rw [hg]; exact (below_size (by repeat (first | (with_reducible first | exact HB.out | apply below_alloc | apply pw_below_drewN | apply below_drew1 | refine below_set ?_ GE369.out | refine below_set ?_ GE370.out) | exact HB.out))) : w.heap.size ≤ gb377))
                      have n5_ := Aside0.mk ((by rw [hg]; exact (below_size (by repeat (first | (with_reducible first | exact HB.out | apply below_alloc | apply pw_below_drewN | apply below_drew1 | refine below_set ?_ GE369.out | refine below_set ?_ GE370.out) | exact HB.out))) : w.heap.size ≤ gb377))
                      have n6_ := Aside0.mk ((by rw [hg]; exact Nat.ne_of_lt (blk_lt (g := gb369) (o := .cells #[.int .i8 a0_0, .int .i8 a0_1, .int .i8 a0_2] 64 (0, 0)) (by (with_reducible repeat (first | refine blk_drewN ?_ _ | refine blk_drew ?_ | refine blk_alloc ?_ _)); exact BK369.out)) : gb369 ≠ gb377))
                      have n7_ := Aside0.mk ((by rw [hg]; exact Nat.ne_of_gt (blk_lt (g := gb369) (o := .cells #[.int .i8 a0_0, .int .i8 a0_1, .int .i8 a0_2] 64 (0, 0)) (by (with_reducible repeat (first | refine blk_drewN ?_ _ | refine blk_drew ?_ | refine blk_alloc ?_ _)); exact BK369.out)) : gb377 ≠ gb369))
                      have n8_ := Aside0.mk ((by rw [hg]; exact Nat.ne_of_lt (blk_lt (g := gb370) (o := .cells #[.int .i8 a1_0, .int .i8 a1_1, .int .i8 a1_2] 64 (0, 0)) (by (with_reducible repeat (first | refine blk_drewN ?_ _ | refine blk_drew ?_ | refine blk_alloc ?_ _)); exact BK370.out)) : gb370 ≠ gb377))
                      have n9_ := Aside0.mk ((by rw [hg]; exact Nat.ne_of_gt (blk_lt (g := gb370) (o := .cells #[.int .i8 a1_0, .int .i8 a1_1, .int .i8 a1_2] 64 (0, 0)) (by (with_reducible repeat (first | refine blk_drewN ?_ _ | refine blk_drew ?_ | refine blk_alloc ?_ _)); exact BK370.out)) : gb377 ≠ gb370))
                      clear BK369
                      clear BK370
                      clear HB
                      have BK369 := n0_
                      have BK370 := n1_
                      have HB := n2_
                      have BK377 := n3_
                      have GW377 := n4_
                      have GE377 := n5_
                      have NB369_377 := n6_
                      have NB377_369 := n7_
                      have NB370_377 := n8_
                      have NB377_370 := n9_
                      clear n0_ n1_ n2_ n3_ n4_ n5_ n6_ n7_ n8_ n9_
                      clear hb hbox hg
                      refine hK.out _ _ ⟨(blk_cell BK369.out 0).trans rfl, (blk_cell BK369.out 1).trans rfl, (blk_cell BK369.out 2).trans rfl, (blk_cell BK370.out 0).trans rfl, (blk_cell BK370.out 1).trans rfl, (blk_cell BK370.out 2).trans rfl⟩ (fun hHeld => ?_)
                      clear hK K
                      refine norm_ (a' := ?_) ?_ ?_
                      rotate_left
                      · show Act.put _ (some 5) _ = _
                        simp only [Act.put, List.setIfInBounds_toArray, List.set_cons_zero, List.set_cons_succ, i64_w, i32_w]
                        rfl
                      exact norm_ (by first | (simp only [putAll, Act.put, List.setIfInBounds_toArray, List.set_cons_zero, List.set_cons_succ]; done) | (simp only [putAll, Act.put, List.setIfInBounds_toArray, List.set_cons_zero, List.set_cons_succ]; rfl)) (hJ1_4 (gb377) _ ⟨hHeld, (by (with_reducible repeat (first | refine blk_drewN ?_ _ | refine blk_drew ?_ | refine blk_alloc ?_ _)); exact BK369.out), (by (with_reducible repeat (first | refine blk_drewN ?_ _ | refine blk_drew ?_ | refine blk_alloc ?_ _)); exact BK370.out), (by (with_reducible repeat (first | refine blk_drewN ?_ _ | refine blk_drew ?_ | refine blk_alloc ?_ _)); exact BK377.out), GW377.out, GE377.out, NB369_377.out, NB377_369.out, NB370_377.out, NB377_370.out, (by repeat (first | (with_reducible first | exact HB.out | apply below_alloc | apply pw_below_drewN | apply below_drew1 | refine below_set ?_ GE369.out | refine below_set ?_ GE370.out | refine below_set ?_ GE377.out) | exact HB.out))⟩)
                    · skip
                      refine box_step ?hg (N := 6) ?hd (cs := #[.int .i8 0, .int .i8 0, .int .i8 0]) (t := 64) ?hr ?_; (case hd => rfl); (case hg => rfl); (case hr => first | (go_simp; done) | (go_simp; rfl))
                      intro gb378 hg w12 hbox hb
                      have n0_ := Aside0.mk (blk_below (g := gb369) (o := .cells #[.int .i8 a0_0, .int .i8 a0_1, .int .i8 a0_2] 64 (0, 0)) (by (with_reducible repeat (first | refine blk_drewN ?_ _ | refine blk_drew ?_ | refine blk_alloc ?_ _)); exact BK369.out) hb)
                      have n1_ := Aside0.mk (blk_below (g := gb370) (o := .cells #[.int .i8 a1_0, .int .i8 a1_1, .int .i8 a1_2] 64 (0, 0)) (by (with_reducible repeat (first | refine blk_drewN ?_ _ | refine blk_drew ?_ | refine blk_alloc ?_ _)); exact BK370.out) hb)
                      have n2_ := Aside0.mk (below_step (by repeat (first | (with_reducible first | exact HB.out | apply below_alloc | apply pw_below_drewN | apply below_drew1 | refine below_set ?_ GE369.out | refine below_set ?_ GE370.out) | exact HB.out)) hb)
                      have n3_ := Aside0.mk (hbox)
                      have n4_ := Aside0.mk ((by rw [hg]; exact (below_size (by repeat (first | (with_reducible first | exact HB.out | apply below_alloc | apply pw_below_drewN | apply below_drew1 | refine below_set ?_ GE369.out | refine below_set ?_ GE370.out) | exact HB.out))) : w.heap.size ≤ gb378))
                      have n5_ := Aside0.mk ((by rw [hg]; exact (below_size (by repeat (first | (with_reducible first | exact HB.out | apply below_alloc | apply pw_below_drewN | apply below_drew1 | refine below_set ?_ GE369.out | refine below_set ?_ GE370.out) | exact HB.out))) : w.heap.size ≤ gb378))
                      have n6_ := Aside0.mk ((by rw [hg]; exact Nat.ne_of_lt (blk_lt (g := gb369) (o := .cells #[.int .i8 a0_0, .int .i8 a0_1, .int .i8 a0_2] 64 (0, 0)) (by (with_reducible repeat (first | refine blk_drewN ?_ _ | refine blk_drew ?_ | refine blk_alloc ?_ _)); exact BK369.out)) : gb369 ≠ gb378))
                      have n7_ := Aside0.mk ((by rw [hg]; exact Nat.ne_of_gt (blk_lt (g := gb369) (o := .cells #[.int .i8 a0_0, .int .i8 a0_1, .int .i8 a0_2] 64 (0, 0)) (by (with_reducible repeat (first | refine blk_drewN ?_ _ | refine blk_drew ?_ | refine blk_alloc ?_ _)); exact BK369.out)) : gb378 ≠ gb369))
                      have n8_ := Aside0.mk ((by rw [hg]; exact Nat.ne_of_lt (blk_lt (g := gb370) (o := .cells #[.int .i8 a1_0, .int .i8 a1_1, .int .i8 a1_2] 64 (0, 0)) (by (with_reducible repeat (first | refine blk_drewN ?_ _ | refine blk_drew ?_ | refine blk_alloc ?_ _)); exact BK370.out)) : gb370 ≠ gb378))
                      have n9_ := Aside0.mk ((by rw [hg]; exact Nat.ne_of_gt (blk_lt (g := gb370) (o := .cells #[.int .i8 a1_0, .int .i8 a1_1, .int .i8 a1_2] 64 (0, 0)) (by (with_reducible repeat (first | refine blk_drewN ?_ _ | refine blk_drew ?_ | refine blk_alloc ?_ _)); exact BK370.out)) : gb378 ≠ gb370))
                      clear BK369
                      clear BK370
                      clear HB
                      have BK369 := n0_
                      have BK370 := n1_
                      have HB := n2_
                      have BK378 := n3_
                      have GW378 := n4_
                      have GE378 := n5_
                      have NB369_378 := n6_
                      have NB378_369 := n7_
                      have NB370_378 := n8_
                      have NB378_370 := n9_
                      clear n0_ n1_ n2_ n3_ n4_ n5_ n6_ n7_ n8_ n9_
                      clear hb hbox hg
                      refine hK.out _ _ ⟨(blk_cell BK369.out 0).trans rfl, (blk_cell BK369.out 1).trans rfl, (blk_cell BK369.out 2).trans rfl, (blk_cell BK370.out 0).trans rfl, (blk_cell BK370.out 1).trans rfl, (blk_cell BK370.out 2).trans rfl⟩ (fun hHeld => ?_)
                      clear hK K
                      refine norm_ (a' := ?_) ?_ ?_
                      rotate_left
                      · show Act.put _ (some 6) _ = _
                        simp only [Act.put, List.setIfInBounds_toArray, List.set_cons_zero, List.set_cons_succ, i64_w, i32_w]
                        rfl
                      exact norm_ (by first | (simp only [putAll, Act.put, List.setIfInBounds_toArray, List.set_cons_zero, List.set_cons_succ]; done) | (simp only [putAll, Act.put, List.setIfInBounds_toArray, List.set_cons_zero, List.set_cons_succ]; rfl)) (hJ1_5 (gb378) _ ⟨hHeld, (by (with_reducible repeat (first | refine blk_drewN ?_ _ | refine blk_drew ?_ | refine blk_alloc ?_ _)); exact BK369.out), (by (with_reducible repeat (first | refine blk_drewN ?_ _ | refine blk_drew ?_ | refine blk_alloc ?_ _)); exact BK370.out), (by (with_reducible repeat (first | refine blk_drewN ?_ _ | refine blk_drew ?_ | refine blk_alloc ?_ _)); exact BK378.out), GW378.out, GE378.out, NB369_378.out, NB378_369.out, NB370_378.out, NB378_370.out, (by repeat (first | (with_reducible first | exact HB.out | apply below_alloc | apply pw_below_drewN | apply below_drew1 | refine below_set ?_ GE369.out | refine below_set ?_ GE370.out | refine below_set ?_ GE378.out) | exact HB.out))⟩)
                · skip
                  rintro ⟨gb377, gb378⟩ w12 ⟨hS_, h0_, h1_, h2_, h3_, h4_, h5_, h6_, h7_, h8_, h9_, h10_, h11_, h12_, h13_, h14_, h15_, h16_, h17_, h18_⟩
                  have n0_ : Aside0 (w12.heap[gb369]? = some (.cells #[.int .i8 a0_0, .int .i8 a0_1, .int .i8 a0_2] 64 (0, 0))) := ⟨h0_⟩
                  have n1_ : Aside0 (w12.heap[gb370]? = some (.cells #[.int .i8 a1_0, .int .i8 a1_1, .int .i8 a1_2] 64 (0, 0))) := ⟨h1_⟩
                  have n2_ : Aside0 (w12.heap[gb377]? = some (.cells #[.int .i8 0, .int .i8 0, .int .i8 0] 64 (0, 0))) := ⟨h2_⟩
                  have n3_ : Aside0 (w12.heap[gb378]? = some (.cells #[.int .i8 0, .int .i8 0, .int .i8 0] 64 (0, 0))) := ⟨h3_⟩
                  have n4_ : Aside0 (w.heap.size ≤ gb377) := ⟨h4_⟩
                  have n5_ : Aside0 (w.heap.size ≤ gb377) := ⟨h5_⟩
                  have n6_ : Aside0 (gb369 ≠ gb377) := ⟨h6_⟩
                  have n7_ : Aside0 (gb377 ≠ gb369) := ⟨h7_⟩
                  have n8_ : Aside0 (gb370 ≠ gb377) := ⟨h8_⟩
                  have n9_ : Aside0 (gb377 ≠ gb370) := ⟨h9_⟩
                  have n10_ : Aside0 (gb378 ≠ gb377) := ⟨h10_⟩
                  have n11_ : Aside0 (gb377 ≠ gb378) := ⟨h11_⟩
                  have n12_ : Aside0 (w.heap.size ≤ gb378) := ⟨h12_⟩
                  have n13_ : Aside0 (w.heap.size ≤ gb378) := ⟨h13_⟩
                  have n14_ : Aside0 (gb369 ≠ gb378) := ⟨h14_⟩
                  have n15_ : Aside0 (gb378 ≠ gb369) := ⟨h15_⟩
                  have n16_ : Aside0 (gb370 ≠ gb378) := ⟨h16_⟩
                  have n17_ : Aside0 (gb378 ≠ gb370) := ⟨h17_⟩
                  have n18_ : Aside0 (Below w.heap.size w w12) := ⟨h18_⟩
                  clear BK369
                  clear BK370
                  clear HB
                  clear h0_ h1_ h2_ h3_ h4_ h5_ h6_ h7_ h8_ h9_ h10_ h11_ h12_ h13_ h14_ h15_ h16_ h17_ h18_
                  have BK369 := n0_
                  have BK370 := n1_
                  have BK377 := n2_
                  have BK378 := n3_
                  have GW377 := n4_
                  have GE377 := n5_
                  have NB369_377 := n6_
                  have NB377_369 := n7_
                  have NB370_377 := n8_
                  have NB377_370 := n9_
                  have NB378_377 := n10_
                  have NB377_378 := n11_
                  have GW378 := n12_
                  have GE378 := n13_
                  have NB369_378 := n14_
                  have NB378_369 := n15_
                  have NB370_378 := n16_
                  have NB378_370 := n17_
                  have HB := n18_
                  clear n0_ n1_ n2_ n3_ n4_ n5_ n6_ n7_ n8_ n9_ n10_ n11_ n12_ n13_ n14_ n15_ n16_ n17_ n18_
                  have hHeld : w12.cell? ⟨gb369, 0, none⟩ = some (.int .i8 a0_0) ∧ w12.cell? ⟨gb369, 1, none⟩ = some (.int .i8 a0_1) ∧ w12.cell? ⟨gb369, 2, none⟩ = some (.int .i8 a0_2) ∧ w12.cell? ⟨gb370, 0, none⟩ = some (.int .i8 a1_0) ∧ w12.cell? ⟨gb370, 1, none⟩ = some (.int .i8 a1_1) ∧ w12.cell? ⟨gb370, 2, none⟩ = some (.int .i8 a1_2) := hS_
                  refine norm_ (a' := ?_) ?_ ?_
                  rotate_left
                  · simp only [putAll, Act.put, List.setIfInBounds_toArray, List.set_cons_zero, List.set_cons_succ]
                    rfl
                  refine one_ (i := 1) (N := some 8) #[true, true, true, false, true, true, false, false] rfl rfl (one_of HT_.out (by kernel_rfl)) (by decide) (fun K hK => ?_)
                  refine goes_ Try.func63 (by kernel_rfl) rfl #[.agg #[.int .i8 a0_0, .int .i8 a0_1, .int .i8 a0_2]] (by rfl) rfl rfl (by (try simp only [List.map_toArray, List.map_cons, List.map_nil]); first | done | rfl | (simp only [List.length_drop, List.length_take]; rfl)) ?_
                  with_reducible refine (impl_Box_sorted.calls k a0_0 a0_1 a0_2 t371 t372 t373 _ A3.out).mono ?_
                  rintro e w13 ⟨rfl, hb⟩
                  refine ⟨_, rfl, ?_⟩
                  have n0_ := Aside0.mk (blk_below (g := gb369) (o := .cells #[.int .i8 a0_0, .int .i8 a0_1, .int .i8 a0_2] 64 (0, 0)) (by (with_reducible repeat (first | refine blk_drewN ?_ _ | refine blk_drew ?_ | refine blk_alloc ?_ _)); exact BK369.out) hb)
                  have n1_ := Aside0.mk (blk_below (g := gb370) (o := .cells #[.int .i8 a1_0, .int .i8 a1_1, .int .i8 a1_2] 64 (0, 0)) (by (with_reducible repeat (first | refine blk_drewN ?_ _ | refine blk_drew ?_ | refine blk_alloc ?_ _)); exact BK370.out) hb)
                  have n2_ := Aside0.mk (blk_below (g := gb377) (o := .cells #[.int .i8 0, .int .i8 0, .int .i8 0] 64 (0, 0)) (by (with_reducible repeat (first | refine blk_drewN ?_ _ | refine blk_drew ?_ | refine blk_alloc ?_ _)); exact BK377.out) hb)
                  have n3_ := Aside0.mk (blk_below (g := gb378) (o := .cells #[.int .i8 0, .int .i8 0, .int .i8 0] 64 (0, 0)) (by (with_reducible repeat (first | refine blk_drewN ?_ _ | refine blk_drew ?_ | refine blk_alloc ?_ _)); exact BK378.out) hb)
                  have n4_ := Aside0.mk (below_step (by repeat (first | (with_reducible first | exact HB.out | apply below_alloc | apply pw_below_drewN | apply below_drew1 | refine below_set ?_ GE369.out | refine below_set ?_ GE370.out | refine below_set ?_ GE377.out | refine below_set ?_ GE378.out) | exact HB.out)) hb)
                  clear BK369
                  clear BK370
                  clear BK377
                  clear BK378
                  clear HB
                  have BK369 := n0_
                  have BK370 := n1_
                  have BK377 := n2_
                  have BK378 := n3_
                  have HB := n4_
                  clear n0_ n1_ n2_ n3_ n4_
                  (try clear hb)
                  (try clear hb2)
                  (try clear hk)
                  (try clear hi)
                  refine hK.out _ _ ⟨(blk_cell BK369.out 0).trans rfl, (blk_cell BK369.out 1).trans rfl, (blk_cell BK369.out 2).trans rfl, (blk_cell BK370.out 0).trans rfl, (blk_cell BK370.out 1).trans rfl, (blk_cell BK370.out 2).trans rfl⟩ (fun hHeld => ?_)
                  clear hK K
                  refine norm_ (a' := ?_) ?_ ?_
                  rotate_left
                  · show Act.put _ (some 8) _ = _
                    simp only [Act.put, List.setIfInBounds_toArray, List.set_cons_zero, List.set_cons_succ, i64_w, i32_w]
                    rfl
                  exact norm_ (by first | (simp only [putAll, Act.put, List.setIfInBounds_toArray, List.set_cons_zero, List.set_cons_succ]; done) | (simp only [putAll, Act.put, List.setIfInBounds_toArray, List.set_cons_zero, List.set_cons_succ]; rfl)) (hJ1_4_5 (gb377, gb378) _ ⟨hHeld, (by (with_reducible repeat (first | refine blk_drewN ?_ _ | refine blk_drew ?_ | refine blk_alloc ?_ _)); exact BK369.out), (by (with_reducible repeat (first | refine blk_drewN ?_ _ | refine blk_drew ?_ | refine blk_alloc ?_ _)); exact BK370.out), (by (with_reducible repeat (first | refine blk_drewN ?_ _ | refine blk_drew ?_ | refine blk_alloc ?_ _)); exact BK377.out), (by (with_reducible repeat (first | refine blk_drewN ?_ _ | refine blk_drew ?_ | refine blk_alloc ?_ _)); exact BK378.out), GW377.out, GE377.out, NB369_377.out, NB377_369.out, NB370_377.out, NB377_370.out, NB378_377.out, NB377_378.out, GW378.out, GE378.out, NB369_378.out, NB378_369.out, NB370_378.out, NB378_370.out, (by repeat (first | (with_reducible first | exact HB.out | apply below_alloc | apply pw_below_drewN | apply below_drew1 | refine below_set ?_ GE369.out | refine below_set ?_ GE370.out | refine below_set ?_ GE377.out | refine below_set ?_ GE378.out) | exact HB.out))⟩)
              · skip
                rintro gb378 w12 ⟨hS_, h0_, h1_, h2_, h3_, h4_, h5_, h6_, h7_, h8_, h9_⟩
                have n0_ : Aside0 (w12.heap[gb369]? = some (.cells #[.int .i8 a0_0, .int .i8 a0_1, .int .i8 a0_2] 64 (0, 0))) := ⟨h0_⟩
                have n1_ : Aside0 (w12.heap[gb370]? = some (.cells #[.int .i8 a1_0, .int .i8 a1_1, .int .i8 a1_2] 64 (0, 0))) := ⟨h1_⟩
                have n2_ : Aside0 (w12.heap[gb378]? = some (.cells #[.int .i8 0, .int .i8 0, .int .i8 0] 64 (0, 0))) := ⟨h2_⟩
                have n3_ : Aside0 (w.heap.size ≤ gb378) := ⟨h3_⟩
                have n4_ : Aside0 (w.heap.size ≤ gb378) := ⟨h4_⟩
                have n5_ : Aside0 (gb369 ≠ gb378) := ⟨h5_⟩
                have n6_ : Aside0 (gb378 ≠ gb369) := ⟨h6_⟩
                have n7_ : Aside0 (gb370 ≠ gb378) := ⟨h7_⟩
                have n8_ : Aside0 (gb378 ≠ gb370) := ⟨h8_⟩
                have n9_ : Aside0 (Below w.heap.size w w12) := ⟨h9_⟩
                clear BK369
                clear BK370
                clear HB
                clear h0_ h1_ h2_ h3_ h4_ h5_ h6_ h7_ h8_ h9_
                have BK369 := n0_
                have BK370 := n1_
                have BK378 := n2_
                have GW378 := n3_
                have GE378 := n4_
                have NB369_378 := n5_
                have NB378_369 := n6_
                have NB370_378 := n7_
                have NB378_370 := n8_
                have HB := n9_
                clear n0_ n1_ n2_ n3_ n4_ n5_ n6_ n7_ n8_ n9_
                have hHeld : w12.cell? ⟨gb369, 0, none⟩ = some (.int .i8 a0_0) ∧ w12.cell? ⟨gb369, 1, none⟩ = some (.int .i8 a0_1) ∧ w12.cell? ⟨gb369, 2, none⟩ = some (.int .i8 a0_2) ∧ w12.cell? ⟨gb370, 0, none⟩ = some (.int .i8 a1_0) ∧ w12.cell? ⟨gb370, 1, none⟩ = some (.int .i8 a1_1) ∧ w12.cell? ⟨gb370, 2, none⟩ = some (.int .i8 a1_2) := hS_
                refine norm_ (a' := ?_) ?_ ?_
                rotate_left
                · simp only [putAll, Act.put, List.setIfInBounds_toArray, List.set_cons_zero, List.set_cons_succ]
                  rfl
                refine two_ (i := 3) (j := 4) (Ni := some 10) (Nj := some 5) #[true, true, true, true, false, true, false, false] #[true, true, true, false, true, true, false, false] rfl rfl rfl rfl (two_of HT_.out (by kernel_rfl)) (by decide) (by decide) (fun K hK => ?_) (fun K hK => ?_)
                · skip
                  refine goes_ Try.func63 (by kernel_rfl) rfl #[.agg #[.int .i8 a1_0, .int .i8 a1_1, .int .i8 a1_2]] (by rfl) rfl rfl (by (try simp only [List.map_toArray, List.map_cons, List.map_nil]); first | done | rfl | (simp only [List.length_drop, List.length_take]; rfl)) ?_
                  with_reducible refine (impl_Box_sorted.calls k a1_0 a1_1 a1_2 t374 t375 t376 _ A4.out).mono ?_
                  rintro e w13 ⟨rfl, hb⟩
                  refine ⟨_, rfl, ?_⟩
                  have n0_ := Aside0.mk (blk_below (g := gb369) (o := .cells #[.int .i8 a0_0, .int .i8 a0_1, .int .i8 a0_2] 64 (0, 0)) (by (with_reducible repeat (first | refine blk_drewN ?_ _ | refine blk_drew ?_ | refine blk_alloc ?_ _)); exact BK369.out) hb)
                  have n1_ := Aside0.mk (blk_below (g := gb370) (o := .cells #[.int .i8 a1_0, .int .i8 a1_1, .int .i8 a1_2] 64 (0, 0)) (by (with_reducible repeat (first | refine blk_drewN ?_ _ | refine blk_drew ?_ | refine blk_alloc ?_ _)); exact BK370.out) hb)
                  have n2_ := Aside0.mk (blk_below (g := gb378) (o := .cells #[.int .i8 0, .int .i8 0, .int .i8 0] 64 (0, 0)) (by (with_reducible repeat (first | refine blk_drewN ?_ _ | refine blk_drew ?_ | refine blk_alloc ?_ _)); exact BK378.out) hb)
                  have n3_ := Aside0.mk (below_step (by repeat (first | (with_reducible first | exact HB.out | apply below_alloc | apply pw_below_drewN | apply below_drew1 | refine below_set ?_ GE369.out | refine below_set ?_ GE370.out | refine below_set ?_ GE378.out) | exact HB.out)) hb)
                  clear BK369
                  clear BK370
                  clear BK378
                  clear HB
                  have BK369 := n0_
                  have BK370 := n1_
                  have BK378 := n2_
                  have HB := n3_
                  clear n0_ n1_ n2_ n3_
                  (try clear hb)
                  (try clear hb2)
                  (try clear hk)
                  (try clear hi)
                  refine hK.out _ _ ⟨(blk_cell BK369.out 0).trans rfl, (blk_cell BK369.out 1).trans rfl, (blk_cell BK369.out 2).trans rfl, (blk_cell BK370.out 0).trans rfl, (blk_cell BK370.out 1).trans rfl, (blk_cell BK370.out 2).trans rfl⟩ (fun hHeld => ?_)
                  clear hK K
                  refine norm_ (a' := ?_) ?_ ?_
                  rotate_left
                  · show Act.put _ (some 10) _ = _
                    simp only [Act.put, List.setIfInBounds_toArray, List.set_cons_zero, List.set_cons_succ, i64_w, i32_w]
                    rfl
                  exact norm_ (by first | (simp only [putAll, Act.put, List.setIfInBounds_toArray, List.set_cons_zero, List.set_cons_succ]; done) | (simp only [putAll, Act.put, List.setIfInBounds_toArray, List.set_cons_zero, List.set_cons_succ]; rfl)) (hJ1_3_5 (gb378) _ ⟨hHeld, (by (with_reducible repeat (first | refine blk_drewN ?_ _ | refine blk_drew ?_ | refine blk_alloc ?_ _)); exact BK369.out), (by (with_reducible repeat (first | refine blk_drewN ?_ _ | refine blk_drew ?_ | refine blk_alloc ?_ _)); exact BK370.out), (by (with_reducible repeat (first | refine blk_drewN ?_ _ | refine blk_drew ?_ | refine blk_alloc ?_ _)); exact BK378.out), GW378.out, GE378.out, NB369_378.out, NB378_369.out, NB370_378.out, NB378_370.out, (by repeat (first | (with_reducible first | exact HB.out | apply below_alloc | apply pw_below_drewN | apply below_drew1 | refine below_set ?_ GE369.out | refine below_set ?_ GE370.out | refine below_set ?_ GE378.out) | exact HB.out))⟩)
                · skip
                  refine box_step ?hg (N := 5) ?hd (cs := #[.int .i8 0, .int .i8 0, .int .i8 0]) (t := 64) ?hr ?_; (case hd => rfl); (case hg => rfl); (case hr => first | (go_simp; done) | (go_simp; rfl))
                  intro gb377 hg w13 hbox hb
                  have n0_ := Aside0.mk (blk_below (g := gb369) (o := .cells #[.int .i8 a0_0, .int .i8 a0_1, .int .i8 a0_2] 64 (0, 0)) (by (with_reducible repeat (first | refine blk_drewN ?_ _ | refine blk_drew ?_ | refine blk_alloc ?_ _)); exact BK369.out) hb)
                  have n1_ := Aside0.mk (blk_below (g := gb370) (o := .cells #[.int .i8 a1_0, .int .i8 a1_1, .int .i8 a1_2] 64 (0, 0)) (by (with_reducible repeat (first | refine blk_drewN ?_ _ | refine blk_drew ?_ | refine blk_alloc ?_ _)); exact BK370.out) hb)
                  have n2_ := Aside0.mk (blk_below (g := gb378) (o := .cells #[.int .i8 0, .int .i8 0, .int .i8 0] 64 (0, 0)) (by (with_reducible repeat (first | refine blk_drewN ?_ _ | refine blk_drew ?_ | refine blk_alloc ?_ _)); exact BK378.out) hb)
                  have n3_ := Aside0.mk (below_step (by repeat (first | (with_reducible first | exact HB.out | apply below_alloc | apply pw_below_drewN | apply below_drew1 | refine below_set ?_ GE369.out | refine below_set ?_ GE370.out | refine below_set ?_ GE378.out) | exact HB.out)) hb)
                  have n4_ := Aside0.mk (hbox)
                  have n5_ := Aside0.mk ((by rw [hg]; exact (below_size (by repeat (first | (with_reducible first | exact HB.out | apply below_alloc | apply pw_below_drewN | apply below_drew1 | refine below_set ?_ GE369.out | refine below_set ?_ GE370.out | refine below_set ?_ GE378.out) | exact HB.out))) : w.heap.size ≤ gb377))
                  have n6_ := Aside0.mk ((by rw [hg]; exact (below_size (by repeat (first | (with_reducible first | exact HB.out | apply below_alloc | apply pw_below_drewN | apply below_drew1 | refine below_set ?_ GE369.out | refine below_set ?_ GE370.out | refine below_set ?_ GE378.out) | exact HB.out))) : w.heap.size ≤ gb377))
                  have n7_ := Aside0.mk ((by rw [hg]; exact Nat.ne_of_lt (blk_lt (g := gb369) (o := .cells #[.int .i8 a0_0, .int .i8 a0_1, .int .i8 a0_2] 64 (0, 0)) (by (with_reducible repeat (first | refine blk_drewN ?_ _ | refine blk_drew ?_ | refine blk_alloc ?_ _)); exact BK369.out)) : gb369 ≠ gb377))
                  have n8_ := Aside0.mk ((by rw [hg]; exact Nat.ne_of_gt (blk_lt (g := gb369) (o := .cells #[.int .i8 a0_0, .int .i8 a0_1, .int .i8 a0_2] 64 (0, 0)) (by (with_reducible repeat (first | refine blk_drewN ?_ _ | refine blk_drew ?_ | refine blk_alloc ?_ _)); exact BK369.out)) : gb377 ≠ gb369))
                  have n9_ := Aside0.mk ((by rw [hg]; exact Nat.ne_of_lt (blk_lt (g := gb370) (o := .cells #[.int .i8 a1_0, .int .i8 a1_1, .int .i8 a1_2] 64 (0, 0)) (by (with_reducible repeat (first | refine blk_drewN ?_ _ | refine blk_drew ?_ | refine blk_alloc ?_ _)); exact BK370.out)) : gb370 ≠ gb377))
                  have n10_ := Aside0.mk ((by rw [hg]; exact Nat.ne_of_gt (blk_lt (g := gb370) (o := .cells #[.int .i8 a1_0, .int .i8 a1_1, .int .i8 a1_2] 64 (0, 0)) (by (with_reducible repeat (first | refine blk_drewN ?_ _ | refine blk_drew ?_ | refine blk_alloc ?_ _)); exact BK370.out)) : gb377 ≠ gb370))
                  have n11_ := Aside0.mk ((by rw [hg]; exact Nat.ne_of_lt (blk_lt (g := gb378) (o := .cells #[.int .i8 0, .int .i8 0, .int .i8 0] 64 (0, 0)) (by (with_reducible repeat (first | refine blk_drewN ?_ _ | refine blk_drew ?_ | refine blk_alloc ?_ _)); exact BK378.out)) : gb378 ≠ gb377))
                  have n12_ := Aside0.mk ((by rw [hg]; exact Nat.ne_of_gt (blk_lt (g := gb378) (o := .cells #[.int .i8 0, .int .i8 0, .int .i8 0] 64 (0, 0)) (by (with_reducible repeat (first | refine blk_drewN ?_ _ | refine blk_drew ?_ | refine blk_alloc ?_ _)); exact BK378.out)) : gb377 ≠ gb378))
                  clear BK369
                  clear BK370
                  clear BK378
                  clear HB
                  have BK369 := n0_
                  have BK370 := n1_
                  have BK378 := n2_
                  have HB := n3_
                  have BK377 := n4_
                  have GW377 := n5_
                  have GE377 := n6_
                  have NB369_377 := n7_
                  have NB377_369 := n8_
                  have NB370_377 := n9_
                  have NB377_370 := n10_
                  have NB378_377 := n11_
                  have NB377_378 := n12_
                  clear n0_ n1_ n2_ n3_ n4_ n5_ n6_ n7_ n8_ n9_ n10_ n11_ n12_
                  clear hb hbox hg
                  refine hK.out _ _ ⟨(blk_cell BK369.out 0).trans rfl, (blk_cell BK369.out 1).trans rfl, (blk_cell BK369.out 2).trans rfl, (blk_cell BK370.out 0).trans rfl, (blk_cell BK370.out 1).trans rfl, (blk_cell BK370.out 2).trans rfl⟩ (fun hHeld => ?_)
                  clear hK K
                  refine norm_ (a' := ?_) ?_ ?_
                  rotate_left
                  · show Act.put _ (some 5) _ = _
                    simp only [Act.put, List.setIfInBounds_toArray, List.set_cons_zero, List.set_cons_succ, i64_w, i32_w]
                    rfl
                  exact norm_ (by first | (simp only [putAll, Act.put, List.setIfInBounds_toArray, List.set_cons_zero, List.set_cons_succ]; done) | (simp only [putAll, Act.put, List.setIfInBounds_toArray, List.set_cons_zero, List.set_cons_succ]; rfl)) (hJ1_4_5 (gb377, gb378) _ ⟨hHeld, (by (with_reducible repeat (first | refine blk_drewN ?_ _ | refine blk_drew ?_ | refine blk_alloc ?_ _)); exact BK369.out), (by (with_reducible repeat (first | refine blk_drewN ?_ _ | refine blk_drew ?_ | refine blk_alloc ?_ _)); exact BK370.out), (by (with_reducible repeat (first | refine blk_drewN ?_ _ | refine blk_drew ?_ | refine blk_alloc ?_ _)); exact BK377.out), (by (with_reducible repeat (first | refine blk_drewN ?_ _ | refine blk_drew ?_ | refine blk_alloc ?_ _)); exact BK378.out), GW377.out, GE377.out, NB369_377.out, NB377_369.out, NB370_377.out, NB377_370.out, NB378_377.out, NB377_378.out, GW378.out, GE378.out, NB369_378.out, NB378_369.out, NB370_378.out, NB378_370.out, (by repeat (first | (with_reducible first | exact HB.out | apply below_alloc | apply pw_below_drewN | apply below_drew1 | refine below_set ?_ GE369.out | refine below_set ?_ GE370.out | refine below_set ?_ GE378.out | refine below_set ?_ GE377.out) | exact HB.out))⟩)
            · skip
              rintro gb377 w12 ⟨hS_, h0_, h1_, h2_, h3_, h4_, h5_, h6_, h7_, h8_, h9_⟩
              have n0_ : Aside0 (w12.heap[gb369]? = some (.cells #[.int .i8 a0_0, .int .i8 a0_1, .int .i8 a0_2] 64 (0, 0))) := ⟨h0_⟩
              have n1_ : Aside0 (w12.heap[gb370]? = some (.cells #[.int .i8 a1_0, .int .i8 a1_1, .int .i8 a1_2] 64 (0, 0))) := ⟨h1_⟩
              have n2_ : Aside0 (w12.heap[gb377]? = some (.cells #[.int .i8 0, .int .i8 0, .int .i8 0] 64 (0, 0))) := ⟨h2_⟩
              have n3_ : Aside0 (w.heap.size ≤ gb377) := ⟨h3_⟩
              have n4_ : Aside0 (w.heap.size ≤ gb377) := ⟨h4_⟩
              have n5_ : Aside0 (gb369 ≠ gb377) := ⟨h5_⟩
              have n6_ : Aside0 (gb377 ≠ gb369) := ⟨h6_⟩
              have n7_ : Aside0 (gb370 ≠ gb377) := ⟨h7_⟩
              have n8_ : Aside0 (gb377 ≠ gb370) := ⟨h8_⟩
              have n9_ : Aside0 (Below w.heap.size w w12) := ⟨h9_⟩
              clear BK369
              clear BK370
              clear HB
              clear h0_ h1_ h2_ h3_ h4_ h5_ h6_ h7_ h8_ h9_
              have BK369 := n0_
              have BK370 := n1_
              have BK377 := n2_
              have GW377 := n3_
              have GE377 := n4_
              have NB369_377 := n5_
              have NB377_369 := n6_
              have NB370_377 := n7_
              have NB377_370 := n8_
              have HB := n9_
              clear n0_ n1_ n2_ n3_ n4_ n5_ n6_ n7_ n8_ n9_
              have hHeld : w12.cell? ⟨gb369, 0, none⟩ = some (.int .i8 a0_0) ∧ w12.cell? ⟨gb369, 1, none⟩ = some (.int .i8 a0_1) ∧ w12.cell? ⟨gb369, 2, none⟩ = some (.int .i8 a0_2) ∧ w12.cell? ⟨gb370, 0, none⟩ = some (.int .i8 a1_0) ∧ w12.cell? ⟨gb370, 1, none⟩ = some (.int .i8 a1_1) ∧ w12.cell? ⟨gb370, 2, none⟩ = some (.int .i8 a1_2) := hS_
              refine norm_ (a' := ?_) ?_ ?_
              rotate_left
              · simp only [putAll, Act.put, List.setIfInBounds_toArray, List.set_cons_zero, List.set_cons_succ]
                rfl
              refine two_ (i := 3) (j := 5) (Ni := some 10) (Nj := some 6) #[true, true, true, true, true, false, false, false] #[true, true, true, false, true, true, false, false] rfl rfl rfl rfl (two_of HT_.out (by kernel_rfl)) (by decide) (by decide) (fun K hK => ?_) (fun K hK => ?_)
              · skip
                refine goes_ Try.func63 (by kernel_rfl) rfl #[.agg #[.int .i8 a1_0, .int .i8 a1_1, .int .i8 a1_2]] (by rfl) rfl rfl (by (try simp only [List.map_toArray, List.map_cons, List.map_nil]); first | done | rfl | (simp only [List.length_drop, List.length_take]; rfl)) ?_
                with_reducible refine (impl_Box_sorted.calls k a1_0 a1_1 a1_2 t374 t375 t376 _ A4.out).mono ?_
                rintro e w13 ⟨rfl, hb⟩
                refine ⟨_, rfl, ?_⟩
                have n0_ := Aside0.mk (blk_below (g := gb369) (o := .cells #[.int .i8 a0_0, .int .i8 a0_1, .int .i8 a0_2] 64 (0, 0)) (by (with_reducible repeat (first | refine blk_drewN ?_ _ | refine blk_drew ?_ | refine blk_alloc ?_ _)); exact BK369.out) hb)
                have n1_ := Aside0.mk (blk_below (g := gb370) (o := .cells #[.int .i8 a1_0, .int .i8 a1_1, .int .i8 a1_2] 64 (0, 0)) (by (with_reducible repeat (first | refine blk_drewN ?_ _ | refine blk_drew ?_ | refine blk_alloc ?_ _)); exact BK370.out) hb)
                have n2_ := Aside0.mk (blk_below (g := gb377) (o := .cells #[.int .i8 0, .int .i8 0, .int .i8 0] 64 (0, 0)) (by (with_reducible repeat (first | refine blk_drewN ?_ _ | refine blk_drew ?_ | refine blk_alloc ?_ _)); exact BK377.out) hb)
                have n3_ := Aside0.mk (below_step (by repeat (first | (with_reducible first | exact HB.out | apply below_alloc | apply pw_below_drewN | apply below_drew1 | refine below_set ?_ GE369.out | refine below_set ?_ GE370.out | refine below_set ?_ GE377.out) | exact HB.out)) hb)
                clear BK369
                clear BK370
                clear BK377
                clear HB
                have BK369 := n0_
                have BK370 := n1_
                have BK377 := n2_
                have HB := n3_
                clear n0_ n1_ n2_ n3_
                (try clear hb)
                (try clear hb2)
                (try clear hk)
                (try clear hi)
                refine hK.out _ _ ⟨(blk_cell BK369.out 0).trans rfl, (blk_cell BK369.out 1).trans rfl, (blk_cell BK369.out 2).trans rfl, (blk_cell BK370.out 0).trans rfl, (blk_cell BK370.out 1).trans rfl, (blk_cell BK370.out 2).trans rfl⟩ (fun hHeld => ?_)
                clear hK K
                refine norm_ (a' := ?_) ?_ ?_
                rotate_left
                · show Act.put _ (some 10) _ = _
                  simp only [Act.put, List.setIfInBounds_toArray, List.set_cons_zero, List.set_cons_succ, i64_w, i32_w]
                  rfl
                exact norm_ (by first | (simp only [putAll, Act.put, List.setIfInBounds_toArray, List.set_cons_zero, List.set_cons_succ]; done) | (simp only [putAll, Act.put, List.setIfInBounds_toArray, List.set_cons_zero, List.set_cons_succ]; rfl)) (hJ1_3_4 (gb377) _ ⟨hHeld, (by (with_reducible repeat (first | refine blk_drewN ?_ _ | refine blk_drew ?_ | refine blk_alloc ?_ _)); exact BK369.out), (by (with_reducible repeat (first | refine blk_drewN ?_ _ | refine blk_drew ?_ | refine blk_alloc ?_ _)); exact BK370.out), (by (with_reducible repeat (first | refine blk_drewN ?_ _ | refine blk_drew ?_ | refine blk_alloc ?_ _)); exact BK377.out), GW377.out, GE377.out, NB369_377.out, NB377_369.out, NB370_377.out, NB377_370.out, (by repeat (first | (with_reducible first | exact HB.out | apply below_alloc | apply pw_below_drewN | apply below_drew1 | refine below_set ?_ GE369.out | refine below_set ?_ GE370.out | refine below_set ?_ GE377.out) | exact HB.out))⟩)
              · skip
                refine box_step ?hg (N := 6) ?hd (cs := #[.int .i8 0, .int .i8 0, .int .i8 0]) (t := 64) ?hr ?_; (case hd => rfl); (case hg => rfl); (case hr => first | (go_simp; done) | (go_simp; rfl))
                intro gb378 hg w13 hbox hb
                have n0_ := Aside0.mk (blk_below (g := gb369) (o := .cells #[.int .i8 a0_0, .int .i8 a0_1, .int .i8 a0_2] 64 (0, 0)) (by (with_reducible repeat (first | refine blk_drewN ?_ _ | refine blk_drew ?_ | refine blk_alloc ?_ _)); exact BK369.out) hb)
                have n1_ := Aside0.mk (blk_below (g := gb370) (o := .cells #[.int .i8 a1_0, .int .i8 a1_1, .int .i8 a1_2] 64 (0, 0)) (by (with_reducible repeat (first | refine blk_drewN ?_ _ | refine blk_drew ?_ | refine blk_alloc ?_ _)); exact BK370.out) hb)
                have n2_ := Aside0.mk (blk_below (g := gb377) (o := .cells #[.int .i8 0, .int .i8 0, .int .i8 0] 64 (0, 0)) (by (with_reducible repeat (first | refine blk_drewN ?_ _ | refine blk_drew ?_ | refine blk_alloc ?_ _)); exact BK377.out) hb)
                have n3_ := Aside0.mk (below_step (by repeat (first | (with_reducible first | exact HB.out | apply below_alloc | apply pw_below_drewN | apply below_drew1 | refine below_set ?_ GE369.out | refine below_set ?_ GE370.out | refine below_set ?_ GE377.out) | exact HB.out)) hb)
                have n4_ := Aside0.mk (hbox)
                have n5_ := Aside0.mk ((by rw [hg]; exact (below_size (by repeat (first | (with_reducible first | exact HB.out | apply below_alloc | apply pw_below_drewN | apply below_drew1 | refine below_set ?_ GE369.out | refine below_set ?_ GE370.out | refine below_set ?_ GE377.out) | exact HB.out))) : w.heap.size ≤ gb378))
                have n6_ := Aside0.mk ((by rw [hg]; exact (below_size (by repeat (first | (with_reducible first | exact HB.out | apply below_alloc | apply pw_below_drewN | apply below_drew1 | refine below_set ?_ GE369.out | refine below_set ?_ GE370.out | refine below_set ?_ GE377.out) | exact HB.out))) : w.heap.size ≤ gb378))
                have n7_ := Aside0.mk ((by rw [hg]; exact Nat.ne_of_lt (blk_lt (g := gb369) (o := .cells #[.int .i8 a0_0, .int .i8 a0_1, .int .i8 a0_2] 64 (0, 0)) (by (with_reducible repeat (first | refine blk_drewN ?_ _ | refine blk_drew ?_ | refine blk_alloc ?_ _)); exact BK369.out)) : gb369 ≠ gb378))
                have n8_ := Aside0.mk ((by rw [hg]; exact Nat.ne_of_gt (blk_lt (g := gb369) (o := .cells #[.int .i8 a0_0, .int .i8 a0_1, .int .i8 a0_2] 64 (0, 0)) (by (with_reducible repeat (first | refine blk_drewN ?_ _ | refine blk_drew ?_ | refine blk_alloc ?_ _)); exact BK369.out)) : gb378 ≠ gb369))
                have n9_ := Aside0.mk ((by rw [hg]; exact Nat.ne_of_lt (blk_lt (g := gb370) (o := .cells #[.int .i8 a1_0, .int .i8 a1_1, .int .i8 a1_2] 64 (0, 0)) (by (with_reducible repeat (first | refine blk_drewN ?_ _ | refine blk_drew ?_ | refine blk_alloc ?_ _)); exact BK370.out)) : gb370 ≠ gb378))
                have n10_ := Aside0.mk ((by rw [hg]; exact Nat.ne_of_gt (blk_lt (g := gb370) (o := .cells #[.int .i8 a1_0, .int .i8 a1_1, .int .i8 a1_2] 64 (0, 0)) (by (with_reducible repeat (first | refine blk_drewN ?_ _ | refine blk_drew ?_ | refine blk_alloc ?_ _)); exact BK370.out)) : gb378 ≠ gb370))
                have n11_ := Aside0.mk ((by rw [hg]; exact Nat.ne_of_lt (blk_lt (g := gb377) (o := .cells #[.int .i8 0, .int .i8 0, .int .i8 0] 64 (0, 0)) (by (with_reducible repeat (first | refine blk_drewN ?_ _ | refine blk_drew ?_ | refine blk_alloc ?_ _)); exact BK377.out)) : gb377 ≠ gb378))
                have n12_ := Aside0.mk ((by rw [hg]; exact Nat.ne_of_gt (blk_lt (g := gb377) (o := .cells #[.int .i8 0, .int .i8 0, .int .i8 0] 64 (0, 0)) (by (with_reducible repeat (first | refine blk_drewN ?_ _ | refine blk_drew ?_ | refine blk_alloc ?_ _)); exact BK377.out)) : gb378 ≠ gb377))
                clear BK369
                clear BK370
                clear BK377
                clear HB
                have BK369 := n0_
                have BK370 := n1_
                have BK377 := n2_
                have HB := n3_
                have BK378 := n4_
                have GW378 := n5_
                have GE378 := n6_
                have NB369_378 := n7_
                have NB378_369 := n8_
                have NB370_378 := n9_
                have NB378_370 := n10_
                have NB377_378 := n11_
                have NB378_377 := n12_
                clear n0_ n1_ n2_ n3_ n4_ n5_ n6_ n7_ n8_ n9_ n10_ n11_ n12_
                clear hb hbox hg
                refine hK.out _ _ ⟨(blk_cell BK369.out 0).trans rfl, (blk_cell BK369.out 1).trans rfl, (blk_cell BK369.out 2).trans rfl, (blk_cell BK370.out 0).trans rfl, (blk_cell BK370.out 1).trans rfl, (blk_cell BK370.out 2).trans rfl⟩ (fun hHeld => ?_)
                clear hK K
                refine norm_ (a' := ?_) ?_ ?_
                rotate_left
                · show Act.put _ (some 6) _ = _
                  simp only [Act.put, List.setIfInBounds_toArray, List.set_cons_zero, List.set_cons_succ, i64_w, i32_w]
                  rfl
                exact norm_ (by first | (simp only [putAll, Act.put, List.setIfInBounds_toArray, List.set_cons_zero, List.set_cons_succ]; done) | (simp only [putAll, Act.put, List.setIfInBounds_toArray, List.set_cons_zero, List.set_cons_succ]; rfl)) (hJ1_4_5 (gb377, gb378) _ ⟨hHeld, (by (with_reducible repeat (first | refine blk_drewN ?_ _ | refine blk_drew ?_ | refine blk_alloc ?_ _)); exact BK369.out), (by (with_reducible repeat (first | refine blk_drewN ?_ _ | refine blk_drew ?_ | refine blk_alloc ?_ _)); exact BK370.out), (by (with_reducible repeat (first | refine blk_drewN ?_ _ | refine blk_drew ?_ | refine blk_alloc ?_ _)); exact BK377.out), (by (with_reducible repeat (first | refine blk_drewN ?_ _ | refine blk_drew ?_ | refine blk_alloc ?_ _)); exact BK378.out), GW377.out, GE377.out, NB369_377.out, NB377_369.out, NB370_377.out, NB377_370.out, NB378_377.out, NB377_378.out, GW378.out, GE378.out, NB369_378.out, NB378_369.out, NB370_378.out, NB378_370.out, (by repeat (first | (with_reducible first | exact HB.out | apply below_alloc | apply pw_below_drewN | apply below_drew1 | refine below_set ?_ GE369.out | refine below_set ?_ GE370.out | refine below_set ?_ GE377.out | refine below_set ?_ GE378.out) | exact HB.out))⟩)
          · skip
            rintro _ w12 ⟨hS_, h0_, h1_, h2_⟩
            have n0_ : Aside0 (w12.heap[gb369]? = some (.cells #[.int .i8 a0_0, .int .i8 a0_1, .int .i8 a0_2] 64 (0, 0))) := ⟨h0_⟩
            have n1_ : Aside0 (w12.heap[gb370]? = some (.cells #[.int .i8 a1_0, .int .i8 a1_1, .int .i8 a1_2] 64 (0, 0))) := ⟨h1_⟩
            have n2_ : Aside0 (Below w.heap.size w w12) := ⟨h2_⟩
            clear BK369
            clear BK370
            clear HB
            clear h0_ h1_ h2_
            have BK369 := n0_
            have BK370 := n1_
            have HB := n2_
            clear n0_ n1_ n2_
            have hHeld : w12.cell? ⟨gb369, 0, none⟩ = some (.int .i8 a0_0) ∧ w12.cell? ⟨gb369, 1, none⟩ = some (.int .i8 a0_1) ∧ w12.cell? ⟨gb369, 2, none⟩ = some (.int .i8 a0_2) ∧ w12.cell? ⟨gb370, 0, none⟩ = some (.int .i8 a1_0) ∧ w12.cell? ⟨gb370, 1, none⟩ = some (.int .i8 a1_1) ∧ w12.cell? ⟨gb370, 2, none⟩ = some (.int .i8 a1_2) := hS_
            refine norm_ (a' := ?_) ?_ ?_
            rotate_left
            · simp only [putAll, Act.put, List.setIfInBounds_toArray, List.set_cons_zero, List.set_cons_succ]
              rfl
            refine two_ (i := 4) (j := 5) (Ni := some 5) (Nj := some 6) #[true, true, true, true, true, false, false, false] #[true, true, true, true, false, true, false, false] rfl rfl rfl rfl (two_of HT_.out (by kernel_rfl)) (by decide) (by decide) (fun K hK => ?_) (fun K hK => ?_)
            · skip
              refine box_step ?hg (N := 5) ?hd (cs := #[.int .i8 0, .int .i8 0, .int .i8 0]) (t := 64) ?hr ?_; (case hd => rfl); (case hg => rfl); (case hr => first | (go_simp; done) | (go_simp; rfl))
              intro gb377 hg w13 hbox hb
              have n0_ := Aside0.mk (blk_below (g := gb369) (o := .cells #[.int .i8 a0_0, .int .i8 a0_1, .int .i8 a0_2] 64 (0, 0)) (by (with_reducible repeat (first | refine blk_drewN ?_ _ | refine blk_drew ?_ | refine blk_alloc ?_ _)); exact BK369.out) hb)
              have n1_ := Aside0.mk (blk_below (g := gb370) (o := .cells #[.int .i8 a1_0, .int .i8 a1_1, .int .i8 a1_2] 64 (0, 0)) (by (with_reducible repeat (first | refine blk_drewN ?_ _ | refine blk_drew ?_ | refine blk_alloc ?_ _)); exact BK370.out) hb)
              have n2_ := Aside0.mk (below_step (by repeat (first | (with_reducible first | exact HB.out | apply below_alloc | apply pw_below_drewN | apply below_drew1 | refine below_set ?_ GE369.out | refine below_set ?_ GE370.out) | exact HB.out)) hb)
              have n3_ := Aside0.mk (hbox)
              have n4_ := Aside0.mk ((by rw [hg]; exact (below_size (by repeat (first | (with_reducible first | exact HB.out | apply below_alloc | apply pw_below_drewN | apply below_drew1 | refine below_set ?_ GE369.out | refine below_set ?_ GE370.out) | exact HB.out))) : w.heap.size ≤ gb377))
              have n5_ := Aside0.mk ((by rw [hg]; exact (below_size (by repeat (first | (with_reducible first | exact HB.out | apply below_alloc | apply pw_below_drewN | apply below_drew1 | refine below_set ?_ GE369.out | refine below_set ?_ GE370.out) | exact HB.out))) : w.heap.size ≤ gb377))
              have n6_ := Aside0.mk ((by rw [hg]; exact Nat.ne_of_lt (blk_lt (g := gb369) (o := .cells #[.int .i8 a0_0, .int .i8 a0_1, .int .i8 a0_2] 64 (0, 0)) (by (with_reducible repeat (first | refine blk_drewN ?_ _ | refine blk_drew ?_ | refine blk_alloc ?_ _)); exact BK369.out)) : gb369 ≠ gb377))
              have n7_ := Aside0.mk ((by rw [hg]; exact Nat.ne_of_gt (blk_lt (g := gb369) (o := .cells #[.int .i8 a0_0, .int .i8 a0_1, .int .i8 a0_2] 64 (0, 0)) (by (with_reducible repeat (first | refine blk_drewN ?_ _ | refine blk_drew ?_ | refine blk_alloc ?_ _)); exact BK369.out)) : gb377 ≠ gb369))
              have n8_ := Aside0.mk ((by rw [hg]; exact Nat.ne_of_lt (blk_lt (g := gb370) (o := .cells #[.int .i8 a1_0, .int .i8 a1_1, .int .i8 a1_2] 64 (0, 0)) (by (with_reducible repeat (first | refine blk_drewN ?_ _ | refine blk_drew ?_ | refine blk_alloc ?_ _)); exact BK370.out)) : gb370 ≠ gb377))
              have n9_ := Aside0.mk ((by rw [hg]; exact Nat.ne_of_gt (blk_lt (g := gb370) (o := .cells #[.int .i8 a1_0, .int .i8 a1_1, .int .i8 a1_2] 64 (0, 0)) (by (with_reducible repeat (first | refine blk_drewN ?_ _ | refine blk_drew ?_ | refine blk_alloc ?_ _)); exact BK370.out)) : gb377 ≠ gb370))
              clear BK369
              clear BK370
              clear HB
              have BK369 := n0_
              have BK370 := n1_
              have HB := n2_
              have BK377 := n3_
              have GW377 := n4_
              have GE377 := n5_
              have NB369_377 := n6_
              have NB377_369 := n7_
              have NB370_377 := n8_
              have NB377_370 := n9_
              clear n0_ n1_ n2_ n3_ n4_ n5_ n6_ n7_ n8_ n9_
              clear hb hbox hg
              refine hK.out _ _ ⟨(blk_cell BK369.out 0).trans rfl, (blk_cell BK369.out 1).trans rfl, (blk_cell BK369.out 2).trans rfl, (blk_cell BK370.out 0).trans rfl, (blk_cell BK370.out 1).trans rfl, (blk_cell BK370.out 2).trans rfl⟩ (fun hHeld => ?_)
              clear hK K
              refine norm_ (a' := ?_) ?_ ?_
              rotate_left
              · show Act.put _ (some 5) _ = _
                simp only [Act.put, List.setIfInBounds_toArray, List.set_cons_zero, List.set_cons_succ, i64_w, i32_w]
                rfl
              exact norm_ (by first | (simp only [putAll, Act.put, List.setIfInBounds_toArray, List.set_cons_zero, List.set_cons_succ]; done) | (simp only [putAll, Act.put, List.setIfInBounds_toArray, List.set_cons_zero, List.set_cons_succ]; rfl)) (hJ1_3_4 (gb377) _ ⟨hHeld, (by (with_reducible repeat (first | refine blk_drewN ?_ _ | refine blk_drew ?_ | refine blk_alloc ?_ _)); exact BK369.out), (by (with_reducible repeat (first | refine blk_drewN ?_ _ | refine blk_drew ?_ | refine blk_alloc ?_ _)); exact BK370.out), (by (with_reducible repeat (first | refine blk_drewN ?_ _ | refine blk_drew ?_ | refine blk_alloc ?_ _)); exact BK377.out), GW377.out, GE377.out, NB369_377.out, NB377_369.out, NB370_377.out, NB377_370.out, (by repeat (first | (with_reducible first | exact HB.out | apply below_alloc | apply pw_below_drewN | apply below_drew1 | refine below_set ?_ GE369.out | refine below_set ?_ GE370.out | refine below_set ?_ GE377.out) | exact HB.out))⟩)
            · skip
              refine box_step ?hg (N := 6) ?hd (cs := #[.int .i8 0, .int .i8 0, .int .i8 0]) (t := 64) ?hr ?_; (case hd => rfl); (case hg => rfl); (case hr => first | (go_simp; done) | (go_simp; rfl))
              intro gb378 hg w13 hbox hb
              have n0_ := Aside0.mk (blk_below (g := gb369) (o := .cells #[.int .i8 a0_0, .int .i8 a0_1, .int .i8 a0_2] 64 (0, 0)) (by (with_reducible repeat (first | refine blk_drewN ?_ _ | refine blk_drew ?_ | refine blk_alloc ?_ _)); exact BK369.out) hb)
              have n1_ := Aside0.mk (blk_below (g := gb370) (o := .cells #[.int .i8 a1_0, .int .i8 a1_1, .int .i8 a1_2] 64 (0, 0)) (by (with_reducible repeat (first | refine blk_drewN ?_ _ | refine blk_drew ?_ | refine blk_alloc ?_ _)); exact BK370.out) hb)
              have n2_ := Aside0.mk (below_step (by repeat (first | (with_reducible first | exact HB.out | apply below_alloc | apply pw_below_drewN | apply below_drew1 | refine below_set ?_ GE369.out | refine below_set ?_ GE370.out) | exact HB.out)) hb)
              have n3_ := Aside0.mk (hbox)
              have n4_ := Aside0.mk ((by rw [hg]; exact (below_size (by repeat (first | (with_reducible first | exact HB.out | apply below_alloc | apply pw_below_drewN | apply below_drew1 | refine below_set ?_ GE369.out | refine below_set ?_ GE370.out) | exact HB.out))) : w.heap.size ≤ gb378))
              have n5_ := Aside0.mk ((by rw [hg]; exact (below_size (by repeat (first | (with_reducible first | exact HB.out | apply below_alloc | apply pw_below_drewN | apply below_drew1 | refine below_set ?_ GE369.out | refine below_set ?_ GE370.out) | exact HB.out))) : w.heap.size ≤ gb378))
              have n6_ := Aside0.mk ((by rw [hg]; exact Nat.ne_of_lt (blk_lt (g := gb369) (o := .cells #[.int .i8 a0_0, .int .i8 a0_1, .int .i8 a0_2] 64 (0, 0)) (by (with_reducible repeat (first | refine blk_drewN ?_ _ | refine blk_drew ?_ | refine blk_alloc ?_ _)); exact BK369.out)) : gb369 ≠ gb378))
              have n7_ := Aside0.mk ((by rw [hg]; exact Nat.ne_of_gt (blk_lt (g := gb369) (o := .cells #[.int .i8 a0_0, .int .i8 a0_1, .int .i8 a0_2] 64 (0, 0)) (by (with_reducible repeat (first | refine blk_drewN ?_ _ | refine blk_drew ?_ | refine blk_alloc ?_ _)); exact BK369.out)) : gb378 ≠ gb369))
              have n8_ := Aside0.mk ((by rw [hg]; exact Nat.ne_of_lt (blk_lt (g := gb370) (o := .cells #[.int .i8 a1_0, .int .i8 a1_1, .int .i8 a1_2] 64 (0, 0)) (by (with_reducible repeat (first | refine blk_drewN ?_ _ | refine blk_drew ?_ | refine blk_alloc ?_ _)); exact BK370.out)) : gb370 ≠ gb378))
              have n9_ := Aside0.mk ((by rw [hg]; exact Nat.ne_of_gt (blk_lt (g := gb370) (o := .cells #[.int .i8 a1_0, .int .i8 a1_1, .int .i8 a1_2] 64 (0, 0)) (by (with_reducible repeat (first | refine blk_drewN ?_ _ | refine blk_drew ?_ | refine blk_alloc ?_ _)); exact BK370.out)) : gb378 ≠ gb370))
              clear BK369
              clear BK370
              clear HB
              have BK369 := n0_
              have BK370 := n1_
              have HB := n2_
              have BK378 := n3_
              have GW378 := n4_
              have GE378 := n5_
              have NB369_378 := n6_
              have NB378_369 := n7_
              have NB370_378 := n8_
              have NB378_370 := n9_
              clear n0_ n1_ n2_ n3_ n4_ n5_ n6_ n7_ n8_ n9_
              clear hb hbox hg
              refine hK.out _ _ ⟨(blk_cell BK369.out 0).trans rfl, (blk_cell BK369.out 1).trans rfl, (blk_cell BK369.out 2).trans rfl, (blk_cell BK370.out 0).trans rfl, (blk_cell BK370.out 1).trans rfl, (blk_cell BK370.out 2).trans rfl⟩ (fun hHeld => ?_)
              clear hK K
              refine norm_ (a' := ?_) ?_ ?_
              rotate_left
              · show Act.put _ (some 6) _ = _
                simp only [Act.put, List.setIfInBounds_toArray, List.set_cons_zero, List.set_cons_succ, i64_w, i32_w]
                rfl
              exact norm_ (by first | (simp only [putAll, Act.put, List.setIfInBounds_toArray, List.set_cons_zero, List.set_cons_succ]; done) | (simp only [putAll, Act.put, List.setIfInBounds_toArray, List.set_cons_zero, List.set_cons_succ]; rfl)) (hJ1_3_5 (gb378) _ ⟨hHeld, (by (with_reducible repeat (first | refine blk_drewN ?_ _ | refine blk_drew ?_ | refine blk_alloc ?_ _)); exact BK369.out), (by (with_reducible repeat (first | refine blk_drewN ?_ _ | refine blk_drew ?_ | refine blk_alloc ?_ _)); exact BK370.out), (by (with_reducible repeat (first | refine blk_drewN ?_ _ | refine blk_drew ?_ | refine blk_alloc ?_ _)); exact BK378.out), GW378.out, GE378.out, NB369_378.out, NB378_369.out, NB370_378.out, NB378_370.out, (by repeat (first | (with_reducible first | exact HB.out | apply below_alloc | apply pw_below_drewN | apply below_drew1 | refine below_set ?_ GE369.out | refine below_set ?_ GE370.out | refine below_set ?_ GE378.out) | exact HB.out))⟩)
        · skip
          rintro ⟨gb377, gb378⟩ w13 ⟨hS_, h0_, h1_, h2_, h3_, h4_, h5_, h6_, h7_, h8_, h9_, h10_, h11_, h12_, h13_, h14_, h15_, h16_, h17_, h18_⟩
          have n0_ : Aside0 (w13.heap[gb369]? = some (.cells #[.int .i8 a0_0, .int .i8 a0_1, .int .i8 a0_2] 64 (0, 0))) := ⟨h0_⟩
          have n1_ : Aside0 (w13.heap[gb370]? = some (.cells #[.int .i8 a1_0, .int .i8 a1_1, .int .i8 a1_2] 64 (0, 0))) := ⟨h1_⟩
          have n2_ : Aside0 (w13.heap[gb377]? = some (.cells #[.int .i8 0, .int .i8 0, .int .i8 0] 64 (0, 0))) := ⟨h2_⟩
          have n3_ : Aside0 (w13.heap[gb378]? = some (.cells #[.int .i8 0, .int .i8 0, .int .i8 0] 64 (0, 0))) := ⟨h3_⟩
          have n4_ : Aside0 (w.heap.size ≤ gb377) := ⟨h4_⟩
          have n5_ : Aside0 (w.heap.size ≤ gb377) := ⟨h5_⟩
          have n6_ : Aside0 (gb369 ≠ gb377) := ⟨h6_⟩
          have n7_ : Aside0 (gb377 ≠ gb369) := ⟨h7_⟩
          have n8_ : Aside0 (gb370 ≠ gb377) := ⟨h8_⟩
          have n9_ : Aside0 (gb377 ≠ gb370) := ⟨h9_⟩
          have n10_ : Aside0 (gb378 ≠ gb377) := ⟨h10_⟩
          have n11_ : Aside0 (gb377 ≠ gb378) := ⟨h11_⟩
          have n12_ : Aside0 (w.heap.size ≤ gb378) := ⟨h12_⟩
          have n13_ : Aside0 (w.heap.size ≤ gb378) := ⟨h13_⟩
          have n14_ : Aside0 (gb369 ≠ gb378) := ⟨h14_⟩
          have n15_ : Aside0 (gb378 ≠ gb369) := ⟨h15_⟩
          have n16_ : Aside0 (gb370 ≠ gb378) := ⟨h16_⟩
          have n17_ : Aside0 (gb378 ≠ gb370) := ⟨h17_⟩
          have n18_ : Aside0 (Below w.heap.size w w13) := ⟨h18_⟩
          clear BK369
          clear BK370
          clear HB
          clear h0_ h1_ h2_ h3_ h4_ h5_ h6_ h7_ h8_ h9_ h10_ h11_ h12_ h13_ h14_ h15_ h16_ h17_ h18_
          have BK369 := n0_
          have BK370 := n1_
          have BK377 := n2_
          have BK378 := n3_
          have GW377 := n4_
          have GE377 := n5_
          have NB369_377 := n6_
          have NB377_369 := n7_
          have NB370_377 := n8_
          have NB377_370 := n9_
          have NB378_377 := n10_
          have NB377_378 := n11_
          have GW378 := n12_
          have GE378 := n13_
          have NB369_378 := n14_
          have NB378_369 := n15_
          have NB370_378 := n16_
          have NB378_370 := n17_
          have HB := n18_
          clear n0_ n1_ n2_ n3_ n4_ n5_ n6_ n7_ n8_ n9_ n10_ n11_ n12_ n13_ n14_ n15_ n16_ n17_ n18_
          have hHeld : w13.cell? ⟨gb369, 0, none⟩ = some (.int .i8 a0_0) ∧ w13.cell? ⟨gb369, 1, none⟩ = some (.int .i8 a0_1) ∧ w13.cell? ⟨gb369, 2, none⟩ = some (.int .i8 a0_2) ∧ w13.cell? ⟨gb370, 0, none⟩ = some (.int .i8 a1_0) ∧ w13.cell? ⟨gb370, 1, none⟩ = some (.int .i8 a1_1) ∧ w13.cell? ⟨gb370, 2, none⟩ = some (.int .i8 a1_2) := hS_
          refine norm_ (a' := ?_) ?_ ?_
          rotate_left
          · simp only [putAll, Act.put, List.setIfInBounds_toArray, List.set_cons_zero, List.set_cons_succ]
            rfl
          refine one_ (i := 3) (N := some 10) #[true, true, true, true, true, true, false, false] rfl rfl (one_of HT_.out (by kernel_rfl)) (by decide) (fun K hK => ?_)
          refine goes_ Try.func63 (by kernel_rfl) rfl #[.agg #[.int .i8 a1_0, .int .i8 a1_1, .int .i8 a1_2]] (by rfl) rfl rfl (by (try simp only [List.map_toArray, List.map_cons, List.map_nil]); first | done | rfl | (simp only [List.length_drop, List.length_take]; rfl)) ?_
          with_reducible refine (impl_Box_sorted.calls k a1_0 a1_1 a1_2 t374 t375 t376 _ A4.out).mono ?_
          rintro e w14 ⟨rfl, hb⟩
          refine ⟨_, rfl, ?_⟩
          have n0_ := Aside0.mk (blk_below (g := gb369) (o := .cells #[.int .i8 a0_0, .int .i8 a0_1, .int .i8 a0_2] 64 (0, 0)) (by (with_reducible repeat (first | refine blk_drewN ?_ _ | refine blk_drew ?_ | refine blk_alloc ?_ _)); exact BK369.out) hb)
          have n1_ := Aside0.mk (blk_below (g := gb370) (o := .cells #[.int .i8 a1_0, .int .i8 a1_1, .int .i8 a1_2] 64 (0, 0)) (by (with_reducible repeat (first | refine blk_drewN ?_ _ | refine blk_drew ?_ | refine blk_alloc ?_ _)); exact BK370.out) hb)
          have n2_ := Aside0.mk (blk_below (g := gb377) (o := .cells #[.int .i8 0, .int .i8 0, .int .i8 0] 64 (0, 0)) (by (with_reducible repeat (first | refine blk_drewN ?_ _ | refine blk_drew ?_ | refine blk_alloc ?_ _)); exact BK377.out) hb)
          have n3_ := Aside0.mk (blk_below (g := gb378) (o := .cells #[.int .i8 0, .int .i8 0, .int .i8 0] 64 (0, 0)) (by (with_reducible repeat (first | refine blk_drewN ?_ _ | refine blk_drew ?_ | refine blk_alloc ?_ _)); exact BK378.out) hb)
          have n4_ := Aside0.mk (below_step (by repeat (first | (with_reducible first | exact HB.out | apply below_alloc | apply pw_below_drewN | apply below_drew1 | refine below_set ?_ GE369.out | refine below_set ?_ GE370.out | refine below_set ?_ GE377.out | refine below_set ?_ GE378.out) | exact HB.out)) hb)
          clear BK369
          clear BK370
          clear BK377
          clear BK378
          clear HB
          have BK369 := n0_
          have BK370 := n1_
          have BK377 := n2_
          have BK378 := n3_
          have HB := n4_
          clear n0_ n1_ n2_ n3_ n4_
          (try clear hb)
          (try clear hb2)
          (try clear hk)
          (try clear hi)
          refine hK.out _ _ ⟨(blk_cell BK369.out 0).trans rfl, (blk_cell BK369.out 1).trans rfl, (blk_cell BK369.out 2).trans rfl, (blk_cell BK370.out 0).trans rfl, (blk_cell BK370.out 1).trans rfl, (blk_cell BK370.out 2).trans rfl⟩ (fun hHeld => ?_)
          clear hK K
          refine norm_ (a' := ?_) ?_ ?_
          rotate_left
          · show Act.put _ (some 10) _ = _
            simp only [Act.put, List.setIfInBounds_toArray, List.set_cons_zero, List.set_cons_succ, i64_w, i32_w]
            rfl
          exact norm_ (by first | (simp only [putAll, Act.put, List.setIfInBounds_toArray, List.set_cons_zero, List.set_cons_succ]; done) | (simp only [putAll, Act.put, List.setIfInBounds_toArray, List.set_cons_zero, List.set_cons_succ]; rfl)) (hJ1_3_4_5 (gb377, gb378) _ ⟨hHeld, (by (with_reducible repeat (first | refine blk_drewN ?_ _ | refine blk_drew ?_ | refine blk_alloc ?_ _)); exact BK369.out), (by (with_reducible repeat (first | refine blk_drewN ?_ _ | refine blk_drew ?_ | refine blk_alloc ?_ _)); exact BK370.out), (by (with_reducible repeat (first | refine blk_drewN ?_ _ | refine blk_drew ?_ | refine blk_alloc ?_ _)); exact BK377.out), (by (with_reducible repeat (first | refine blk_drewN ?_ _ | refine blk_drew ?_ | refine blk_alloc ?_ _)); exact BK378.out), GW377.out, GE377.out, NB369_377.out, NB377_369.out, NB370_377.out, NB377_370.out, NB378_377.out, NB377_378.out, GW378.out, GE378.out, NB369_378.out, NB378_369.out, NB370_378.out, NB378_370.out, (by repeat (first | (with_reducible first | exact HB.out | apply below_alloc | apply pw_below_drewN | apply below_drew1 | refine below_set ?_ GE369.out | refine below_set ?_ GE370.out | refine below_set ?_ GE377.out | refine below_set ?_ GE378.out) | exact HB.out))⟩)
      · skip
        rintro gb378 w13 ⟨hS_, h0_, h1_, h2_, h3_, h4_, h5_, h6_, h7_, h8_, h9_⟩
        have n0_ : Aside0 (w13.heap[gb369]? = some (.cells #[.int .i8 a0_0, .int .i8 a0_1, .int .i8 a0_2] 64 (0, 0))) := ⟨h0_⟩
        have n1_ : Aside0 (w13.heap[gb370]? = some (.cells #[.int .i8 a1_0, .int .i8 a1_1, .int .i8 a1_2] 64 (0, 0))) := ⟨h1_⟩
        have n2_ : Aside0 (w13.heap[gb378]? = some (.cells #[.int .i8 0, .int .i8 0, .int .i8 0] 64 (0, 0))) := ⟨h2_⟩
        have n3_ : Aside0 (w.heap.size ≤ gb378) := ⟨h3_⟩
        have n4_ : Aside0 (w.heap.size ≤ gb378) := ⟨h4_⟩
        have n5_ : Aside0 (gb369 ≠ gb378) := ⟨h5_⟩
        have n6_ : Aside0 (gb378 ≠ gb369) := ⟨h6_⟩
        have n7_ : Aside0 (gb370 ≠ gb378) := ⟨h7_⟩
        have n8_ : Aside0 (gb378 ≠ gb370) := ⟨h8_⟩
        have n9_ : Aside0 (Below w.heap.size w w13) := ⟨h9_⟩
        clear BK369
        clear BK370
        clear HB
        clear h0_ h1_ h2_ h3_ h4_ h5_ h6_ h7_ h8_ h9_
        have BK369 := n0_
        have BK370 := n1_
        have BK378 := n2_
        have GW378 := n3_
        have GE378 := n4_
        have NB369_378 := n5_
        have NB378_369 := n6_
        have NB370_378 := n7_
        have NB378_370 := n8_
        have HB := n9_
        clear n0_ n1_ n2_ n3_ n4_ n5_ n6_ n7_ n8_ n9_
        have hHeld : w13.cell? ⟨gb369, 0, none⟩ = some (.int .i8 a0_0) ∧ w13.cell? ⟨gb369, 1, none⟩ = some (.int .i8 a0_1) ∧ w13.cell? ⟨gb369, 2, none⟩ = some (.int .i8 a0_2) ∧ w13.cell? ⟨gb370, 0, none⟩ = some (.int .i8 a1_0) ∧ w13.cell? ⟨gb370, 1, none⟩ = some (.int .i8 a1_1) ∧ w13.cell? ⟨gb370, 2, none⟩ = some (.int .i8 a1_2) := hS_
        refine norm_ (a' := ?_) ?_ ?_
        rotate_left
        · simp only [putAll, Act.put, List.setIfInBounds_toArray, List.set_cons_zero, List.set_cons_succ]
          rfl
        refine one_ (i := 4) (N := some 5) #[true, true, true, true, true, true, false, false] rfl rfl (one_of HT_.out (by kernel_rfl)) (by decide) (fun K hK => ?_)
        refine box_step ?hg (N := 5) ?hd (cs := #[.int .i8 0, .int .i8 0, .int .i8 0]) (t := 64) ?hr ?_; (case hd => rfl); (case hg => rfl); (case hr => first | (go_simp; done) | (go_simp; rfl))
        intro gb377 hg w14 hbox hb
        have n0_ := Aside0.mk (blk_below (g := gb369) (o := .cells #[.int .i8 a0_0, .int .i8 a0_1, .int .i8 a0_2] 64 (0, 0)) (by (with_reducible repeat (first | refine blk_drewN ?_ _ | refine blk_drew ?_ | refine blk_alloc ?_ _)); exact BK369.out) hb)
        have n1_ := Aside0.mk (blk_below (g := gb370) (o := .cells #[.int .i8 a1_0, .int .i8 a1_1, .int .i8 a1_2] 64 (0, 0)) (by (with_reducible repeat (first | refine blk_drewN ?_ _ | refine blk_drew ?_ | refine blk_alloc ?_ _)); exact BK370.out) hb)
        have n2_ := Aside0.mk (blk_below (g := gb378) (o := .cells #[.int .i8 0, .int .i8 0, .int .i8 0] 64 (0, 0)) (by (with_reducible repeat (first | refine blk_drewN ?_ _ | refine blk_drew ?_ | refine blk_alloc ?_ _)); exact BK378.out) hb)
        have n3_ := Aside0.mk (below_step (by repeat (first | (with_reducible first | exact HB.out | apply below_alloc | apply pw_below_drewN | apply below_drew1 | refine below_set ?_ GE369.out | refine below_set ?_ GE370.out | refine below_set ?_ GE378.out) | exact HB.out)) hb)
        have n4_ := Aside0.mk (hbox)
        have n5_ := Aside0.mk ((by rw [hg]; exact (below_size (by repeat (first | (with_reducible first | exact HB.out | apply below_alloc | apply pw_below_drewN | apply below_drew1 | refine below_set ?_ GE369.out | refine below_set ?_ GE370.out | refine below_set ?_ GE378.out) | exact HB.out))) : w.heap.size ≤ gb377))
        have n6_ := Aside0.mk ((by rw [hg]; exact (below_size (by repeat (first | (with_reducible first | exact HB.out | apply below_alloc | apply pw_below_drewN | apply below_drew1 | refine below_set ?_ GE369.out | refine below_set ?_ GE370.out | refine below_set ?_ GE378.out) | exact HB.out))) : w.heap.size ≤ gb377))
        have n7_ := Aside0.mk ((by rw [hg]; exact Nat.ne_of_lt (blk_lt (g := gb369) (o := .cells #[.int .i8 a0_0, .int .i8 a0_1, .int .i8 a0_2] 64 (0, 0)) (by (with_reducible repeat (first | refine blk_drewN ?_ _ | refine blk_drew ?_ | refine blk_alloc ?_ _)); exact BK369.out)) : gb369 ≠ gb377))
        have n8_ := Aside0.mk ((by rw [hg]; exact Nat.ne_of_gt (blk_lt (g := gb369) (o := .cells #[.int .i8 a0_0, .int .i8 a0_1, .int .i8 a0_2] 64 (0, 0)) (by (with_reducible repeat (first | refine blk_drewN ?_ _ | refine blk_drew ?_ | refine blk_alloc ?_ _)); exact BK369.out)) : gb377 ≠ gb369))
        have n9_ := Aside0.mk ((by rw [hg]; exact Nat.ne_of_lt (blk_lt (g := gb370) (o := .cells #[.int .i8 a1_0, .int .i8 a1_1, .int .i8 a1_2] 64 (0, 0)) (by (with_reducible repeat (first | refine blk_drewN ?_ _ | refine blk_drew ?_ | refine blk_alloc ?_ _)); exact BK370.out)) : gb370 ≠ gb377))
        have n10_ := Aside0.mk ((by rw [hg]; exact Nat.ne_of_gt (blk_lt (g := gb370) (o := .cells #[.int .i8 a1_0, .int .i8 a1_1, .int .i8 a1_2] 64 (0, 0)) (by (with_reducible repeat (first | refine blk_drewN ?_ _ | refine blk_drew ?_ | refine blk_alloc ?_ _)); exact BK370.out)) : gb377 ≠ gb370))
        have n11_ := Aside0.mk ((by rw [hg]; exact Nat.ne_of_lt (blk_lt (g := gb378) (o := .cells #[.int .i8 0, .int .i8 0, .int .i8 0] 64 (0, 0)) (by (with_reducible repeat (first | refine blk_drewN ?_ _ | refine blk_drew ?_ | refine blk_alloc ?_ _)); exact BK378.out)) : gb378 ≠ gb377))
        have n12_ := Aside0.mk ((by rw [hg]; exact Nat.ne_of_gt (blk_lt (g := gb378) (o := .cells #[.int .i8 0, .int .i8 0, .int .i8 0] 64 (0, 0)) (by (with_reducible repeat (first | refine blk_drewN ?_ _ | refine blk_drew ?_ | refine blk_alloc ?_ _)); exact BK378.out)) : gb377 ≠ gb378))
        clear BK369
        clear BK370
        clear BK378
        clear HB
        have BK369 := n0_
        have BK370 := n1_
        have BK378 := n2_
        have HB := n3_
        have BK377 := n4_
        have GW377 := n5_
        have GE377 := n6_
        have NB369_377 := n7_
        have NB377_369 := n8_
        have NB370_377 := n9_
        have NB377_370 := n10_
        have NB378_377 := n11_
        have NB377_378 := n12_
        clear n0_ n1_ n2_ n3_ n4_ n5_ n6_ n7_ n8_ n9_ n10_ n11_ n12_
        clear hb hbox hg
        refine hK.out _ _ ⟨(blk_cell BK369.out 0).trans rfl, (blk_cell BK369.out 1).trans rfl, (blk_cell BK369.out 2).trans rfl, (blk_cell BK370.out 0).trans rfl, (blk_cell BK370.out 1).trans rfl, (blk_cell BK370.out 2).trans rfl⟩ (fun hHeld => ?_)
        clear hK K
        refine norm_ (a' := ?_) ?_ ?_
        rotate_left
        · show Act.put _ (some 5) _ = _
          simp only [Act.put, List.setIfInBounds_toArray, List.set_cons_zero, List.set_cons_succ, i64_w, i32_w]
          rfl
        exact norm_ (by first | (simp only [putAll, Act.put, List.setIfInBounds_toArray, List.set_cons_zero, List.set_cons_succ]; done) | (simp only [putAll, Act.put, List.setIfInBounds_toArray, List.set_cons_zero, List.set_cons_succ]; rfl)) (hJ1_3_4_5 (gb377, gb378) _ ⟨hHeld, (by (with_reducible repeat (first | refine blk_drewN ?_ _ | refine blk_drew ?_ | refine blk_alloc ?_ _)); exact BK369.out), (by (with_reducible repeat (first | refine blk_drewN ?_ _ | refine blk_drew ?_ | refine blk_alloc ?_ _)); exact BK370.out), (by (with_reducible repeat (first | refine blk_drewN ?_ _ | refine blk_drew ?_ | refine blk_alloc ?_ _)); exact BK377.out), (by (with_reducible repeat (first | refine blk_drewN ?_ _ | refine blk_drew ?_ | refine blk_alloc ?_ _)); exact BK378.out), GW377.out, GE377.out, NB369_377.out, NB377_369.out, NB370_377.out, NB377_370.out, NB378_377.out, NB377_378.out, GW378.out, GE378.out, NB369_378.out, NB378_369.out, NB370_378.out, NB378_370.out, (by repeat (first | (with_reducible first | exact HB.out | apply below_alloc | apply pw_below_drewN | apply below_drew1 | refine below_set ?_ GE369.out | refine below_set ?_ GE370.out | refine below_set ?_ GE378.out | refine below_set ?_ GE377.out) | exact HB.out))⟩)
    · skip
      rintro gb377 w13 ⟨hS_, h0_, h1_, h2_, h3_, h4_, h5_, h6_, h7_, h8_, h9_⟩
      have n0_ : Aside0 (w13.heap[gb369]? = some (.cells #[.int .i8 a0_0, .int .i8 a0_1, .int .i8 a0_2] 64 (0, 0))) := ⟨h0_⟩
      have n1_ : Aside0 (w13.heap[gb370]? = some (.cells #[.int .i8 a1_0, .int .i8 a1_1, .int .i8 a1_2] 64 (0, 0))) := ⟨h1_⟩
      have n2_ : Aside0 (w13.heap[gb377]? = some (.cells #[.int .i8 0, .int .i8 0, .int .i8 0] 64 (0, 0))) := ⟨h2_⟩
      have n3_ : Aside0 (w.heap.size ≤ gb377) := ⟨h3_⟩
      have n4_ : Aside0 (w.heap.size ≤ gb377) := ⟨h4_⟩
      have n5_ : Aside0 (gb369 ≠ gb377) := ⟨h5_⟩
      have n6_ : Aside0 (gb377 ≠ gb369) := ⟨h6_⟩
      have n7_ : Aside0 (gb370 ≠ gb377) := ⟨h7_⟩
      have n8_ : Aside0 (gb377 ≠ gb370) := ⟨h8_⟩
      have n9_ : Aside0 (Below w.heap.size w w13) := ⟨h9_⟩
      clear BK369
      clear BK370
      clear HB
      clear h0_ h1_ h2_ h3_ h4_ h5_ h6_ h7_ h8_ h9_
      have BK369 := n0_
      have BK370 := n1_
      have BK377 := n2_
      have GW377 := n3_
      have GE377 := n4_
      have NB369_377 := n5_
      have NB377_369 := n6_
      have NB370_377 := n7_
      have NB377_370 := n8_
      have HB := n9_
      clear n0_ n1_ n2_ n3_ n4_ n5_ n6_ n7_ n8_ n9_
      have hHeld : w13.cell? ⟨gb369, 0, none⟩ = some (.int .i8 a0_0) ∧ w13.cell? ⟨gb369, 1, none⟩ = some (.int .i8 a0_1) ∧ w13.cell? ⟨gb369, 2, none⟩ = some (.int .i8 a0_2) ∧ w13.cell? ⟨gb370, 0, none⟩ = some (.int .i8 a1_0) ∧ w13.cell? ⟨gb370, 1, none⟩ = some (.int .i8 a1_1) ∧ w13.cell? ⟨gb370, 2, none⟩ = some (.int .i8 a1_2) := hS_
      refine norm_ (a' := ?_) ?_ ?_
      rotate_left
      · simp only [putAll, Act.put, List.setIfInBounds_toArray, List.set_cons_zero, List.set_cons_succ]
        rfl
      refine one_ (i := 5) (N := some 6) #[true, true, true, true, true, true, false, false] rfl rfl (one_of HT_.out (by kernel_rfl)) (by decide) (fun K hK => ?_)
      refine box_step ?hg (N := 6) ?hd (cs := #[.int .i8 0, .int .i8 0, .int .i8 0]) (t := 64) ?hr ?_; (case hd => rfl); (case hg => rfl); (case hr => first | (go_simp; done) | (go_simp; rfl))
      intro gb378 hg w14 hbox hb
      have n0_ := Aside0.mk (blk_below (g := gb369) (o := .cells #[.int .i8 a0_0, .int .i8 a0_1, .int .i8 a0_2] 64 (0, 0)) (by (with_reducible repeat (first | refine blk_drewN ?_ _ | refine blk_drew ?_ | refine blk_alloc ?_ _)); exact BK369.out) hb)
      have n1_ := Aside0.mk (blk_below (g := gb370) (o := .cells #[.int .i8 a1_0, .int .i8 a1_1, .int .i8 a1_2] 64 (0, 0)) (by (with_reducible repeat (first | refine blk_drewN ?_ _ | refine blk_drew ?_ | refine blk_alloc ?_ _)); exact BK370.out) hb)
      have n2_ := Aside0.mk (blk_below (g := gb377) (o := .cells #[.int .i8 0, .int .i8 0, .int .i8 0] 64 (0, 0)) (by (with_reducible repeat (first | refine blk_drewN ?_ _ | refine blk_drew ?_ | refine blk_alloc ?_ _)); exact BK377.out) hb)
      have n3_ := Aside0.mk (below_step (by repeat (first | (with_reducible first | exact HB.out | apply below_alloc | apply pw_below_drewN | apply below_drew1 | refine below_set ?_ GE369.out | refine below_set ?_ GE370.out | refine below_set ?_ GE377.out) | exact HB.out)) hb)
      have n4_ := Aside0.mk (hbox)
      have n5_ := Aside0.mk ((by rw [hg]; exact (below_size (by repeat (first | (with_reducible first | exact HB.out | apply below_alloc | apply pw_below_drewN | apply below_drew1 | refine below_set ?_ GE369.out | refine below_set ?_ GE370.out | refine below_set ?_ GE377.out) | exact HB.out))) : w.heap.size ≤ gb378))
      have n6_ := Aside0.mk ((by rw [hg]; exact (below_size (by repeat (first | (with_reducible first | exact HB.out | apply below_alloc | apply pw_below_drewN | apply below_drew1 | refine below_set ?_ GE369.out | refine below_set ?_ GE370.out | refine below_set ?_ GE377.out) | exact HB.out))) : w.heap.size ≤ gb378))
      have n7_ := Aside0.mk ((by rw [hg]; exact Nat.ne_of_lt (blk_lt (g := gb369) (o := .cells #[.int .i8 a0_0, .int .i8 a0_1, .int .i8 a0_2] 64 (0, 0)) (by (with_reducible repeat (first | refine blk_drewN ?_ _ | refine blk_drew ?_ | refine blk_alloc ?_ _)); exact BK369.out)) : gb369 ≠ gb378))
      have n8_ := Aside0.mk ((by rw [hg]; exact Nat.ne_of_gt (blk_lt (g := gb369) (o := .cells #[.int .i8 a0_0, .int .i8 a0_1, .int .i8 a0_2] 64 (0, 0)) (by (with_reducible repeat (first | refine blk_drewN ?_ _ | refine blk_drew ?_ | refine blk_alloc ?_ _)); exact BK369.out)) : gb378 ≠ gb369))
      have n9_ := Aside0.mk ((by rw [hg]; exact Nat.ne_of_lt (blk_lt (g := gb370) (o := .cells #[.int .i8 a1_0, .int .i8 a1_1, .int .i8 a1_2] 64 (0, 0)) (by (with_reducible repeat (first | refine blk_drewN ?_ _ | refine blk_drew ?_ | refine blk_alloc ?_ _)); exact BK370.out)) : gb370 ≠ gb378))
      have n10_ := Aside0.mk ((by rw [hg]; exact Nat.ne_of_gt (blk_lt (g := gb370) (o := .cells #[.int .i8 a1_0, .int .i8 a1_1, .int .i8 a1_2] 64 (0, 0)) (by (with_reducible repeat (first | refine blk_drewN ?_ _ | refine blk_drew ?_ | refine blk_alloc ?_ _)); exact BK370.out)) : gb378 ≠ gb370))
      have n11_ := Aside0.mk ((by rw [hg]; exact Nat.ne_of_lt (blk_lt (g := gb377) (o := .cells #[.int .i8 0, .int .i8 0, .int .i8 0] 64 (0, 0)) (by (with_reducible repeat (first | refine blk_drewN ?_ _ | refine blk_drew ?_ | refine blk_alloc ?_ _)); exact BK377.out)) : gb377 ≠ gb378))
      have n12_ := Aside0.mk ((by rw [hg]; exact Nat.ne_of_gt (blk_lt (g := gb377) (o := .cells #[.int .i8 0, .int .i8 0, .int .i8 0] 64 (0, 0)) (by (with_reducible repeat (first | refine blk_drewN ?_ _ | refine blk_drew ?_ | refine blk_alloc ?_ _)); exact BK377.out)) : gb378 ≠ gb377))
      clear BK369
      clear BK370
      clear BK377
      clear HB
      have BK369 := n0_
      have BK370 := n1_
      have BK377 := n2_
      have HB := n3_
      have BK378 := n4_
      have GW378 := n5_
      have GE378 := n6_
      have NB369_378 := n7_
      have NB378_369 := n8_
      have NB370_378 := n9_
      have NB378_370 := n10_
      have NB377_378 := n11_
      have NB378_377 := n12_
      clear n0_ n1_ n2_ n3_ n4_ n5_ n6_ n7_ n8_ n9_ n10_ n11_ n12_
      clear hb hbox hg
      refine hK.out _ _ ⟨(blk_cell BK369.out 0).trans rfl, (blk_cell BK369.out 1).trans rfl, (blk_cell BK369.out 2).trans rfl, (blk_cell BK370.out 0).trans rfl, (blk_cell BK370.out 1).trans rfl, (blk_cell BK370.out 2).trans rfl⟩ (fun hHeld => ?_)
      clear hK K
      refine norm_ (a' := ?_) ?_ ?_
      rotate_left
      · show Act.put _ (some 6) _ = _
        simp only [Act.put, List.setIfInBounds_toArray, List.set_cons_zero, List.set_cons_succ, i64_w, i32_w]
        rfl
      exact norm_ (by first | (simp only [putAll, Act.put, List.setIfInBounds_toArray, List.set_cons_zero, List.set_cons_succ]; done) | (simp only [putAll, Act.put, List.setIfInBounds_toArray, List.set_cons_zero, List.set_cons_succ]; rfl)) (hJ1_3_4_5 (gb377, gb378) _ ⟨hHeld, (by (with_reducible repeat (first | refine blk_drewN ?_ _ | refine blk_drew ?_ | refine blk_alloc ?_ _)); exact BK369.out), (by (with_reducible repeat (first | refine blk_drewN ?_ _ | refine blk_drew ?_ | refine blk_alloc ?_ _)); exact BK370.out), (by (with_reducible repeat (first | refine blk_drewN ?_ _ | refine blk_drew ?_ | refine blk_alloc ?_ _)); exact BK377.out), (by (with_reducible repeat (first | refine blk_drewN ?_ _ | refine blk_drew ?_ | refine blk_alloc ?_ _)); exact BK378.out), GW377.out, GE377.out, NB369_377.out, NB377_369.out, NB370_377.out, NB377_370.out, NB378_377.out, NB377_378.out, GW378.out, GE378.out, NB369_378.out, NB378_369.out, NB370_378.out, NB378_370.out, (by repeat (first | (with_reducible first | exact HB.out | apply below_alloc | apply pw_below_drewN | apply below_drew1 | refine below_set ?_ GE369.out | refine below_set ?_ GE370.out | refine below_set ?_ GE377.out | refine below_set ?_ GE378.out) | exact HB.out))⟩)
  rintro ⟨gb377, gb378⟩ w14 ⟨hS_, h0_, h1_, h2_, h3_, h4_, h5_, h6_, h7_, h8_, h9_, h10_, h11_, h12_, h13_, h14_, h15_, h16_, h17_, h18_⟩
  have n0_ : Aside0 (w14.heap[gb369]? = some (.cells #[.int .i8 a0_0, .int .i8 a0_1, .int .i8 a0_2] 64 (0, 0))) := ⟨h0_⟩
  have n1_ : Aside0 (w14.heap[gb370]? = some (.cells #[.int .i8 a1_0, .int .i8 a1_1, .int .i8 a1_2] 64 (0, 0))) := ⟨h1_⟩
  have n2_ : Aside0 (w14.heap[gb377]? = some (.cells #[.int .i8 0, .int .i8 0, .int .i8 0] 64 (0, 0))) := ⟨h2_⟩
  have n3_ : Aside0 (w14.heap[gb378]? = some (.cells #[.int .i8 0, .int .i8 0, .int .i8 0] 64 (0, 0))) := ⟨h3_⟩
  have n4_ : Aside0 (w.heap.size ≤ gb377) := ⟨h4_⟩
  have n5_ : Aside0 (w.heap.size ≤ gb377) := ⟨h5_⟩
  have n6_ : Aside0 (gb369 ≠ gb377) := ⟨h6_⟩
  have n7_ : Aside0 (gb377 ≠ gb369) := ⟨h7_⟩
  have n8_ : Aside0 (gb370 ≠ gb377) := ⟨h8_⟩
  have n9_ : Aside0 (gb377 ≠ gb370) := ⟨h9_⟩
  have n10_ : Aside0 (gb378 ≠ gb377) := ⟨h10_⟩
  have n11_ : Aside0 (gb377 ≠ gb378) := ⟨h11_⟩
  have n12_ : Aside0 (w.heap.size ≤ gb378) := ⟨h12_⟩
  have n13_ : Aside0 (w.heap.size ≤ gb378) := ⟨h13_⟩
  have n14_ : Aside0 (gb369 ≠ gb378) := ⟨h14_⟩
  have n15_ : Aside0 (gb378 ≠ gb369) := ⟨h15_⟩
  have n16_ : Aside0 (gb370 ≠ gb378) := ⟨h16_⟩
  have n17_ : Aside0 (gb378 ≠ gb370) := ⟨h17_⟩
  have n18_ : Aside0 (Below w.heap.size w w14) := ⟨h18_⟩
  clear BK369
  clear BK370
  clear HB
  clear h0_ h1_ h2_ h3_ h4_ h5_ h6_ h7_ h8_ h9_ h10_ h11_ h12_ h13_ h14_ h15_ h16_ h17_ h18_
  have BK369 := n0_
  have BK370 := n1_
  have BK377 := n2_
  have BK378 := n3_
  have GW377 := n4_
  have GE377 := n5_
  have NB369_377 := n6_
  have NB377_369 := n7_
  have NB370_377 := n8_
  have NB377_370 := n9_
  have NB378_377 := n10_
  have NB377_378 := n11_
  have GW378 := n12_
  have GE378 := n13_
  have NB369_378 := n14_
  have NB378_369 := n15_
  have NB370_378 := n16_
  have NB378_370 := n17_
  have HB := n18_
  clear n0_ n1_ n2_ n3_ n4_ n5_ n6_ n7_ n8_ n9_ n10_ n11_ n12_ n13_ n14_ n15_ n16_ n17_ n18_
  have hHeld : w14.cell? ⟨gb369, 0, none⟩ = some (.int .i8 a0_0) ∧ w14.cell? ⟨gb369, 1, none⟩ = some (.int .i8 a0_1) ∧ w14.cell? ⟨gb369, 2, none⟩ = some (.int .i8 a0_2) ∧ w14.cell? ⟨gb370, 0, none⟩ = some (.int .i8 a1_0) ∧ w14.cell? ⟨gb370, 1, none⟩ = some (.int .i8 a1_1) ∧ w14.cell? ⟨gb370, 2, none⟩ = some (.int .i8 a1_2) := hS_
  refine norm_ (a' := ?_) ?_ ?_
  rotate_left
  · simp only [putAll, Act.put, List.setIfInBounds_toArray, List.set_cons_zero, List.set_cons_succ]
    rfl
  refine one_ (i := 6) (N := none) #[true, true, true, true, true, true, true, false] rfl rfl (one_of HT_.out (by kernel_rfl)) (by decide) (fun K hK => ?_)
  have hs15 : w14.cell? ⟨gb377, 0, none⟩ = some (.int .i8 0) := (blk_cell BK377.out 0).trans rfl
  have hfs15 := blk_frozen BK377.out 0
  have hns15_0 := NB369_377.out
  have hns15_1 := NB370_377.out
  have hns15_3 := NB378_377.out
  have hms15_0 := NB377_369.out
  have hms15_1 := NB377_370.out
  have hms15_3 := NB377_378.out
  have hs16 : w14.cell? ⟨gb377, 1, none⟩ = some (.int .i8 0) := (blk_cell BK377.out 1).trans rfl
  have hfs16 := blk_frozen BK377.out 1
  have hns16_0 := NB369_377.out
  have hns16_1 := NB370_377.out
  have hns16_3 := NB378_377.out
  have hms16_0 := NB377_369.out
  have hms16_1 := NB377_370.out
  have hms16_3 := NB377_378.out
  have hs17 : w14.cell? ⟨gb377, 2, none⟩ = some (.int .i8 0) := (blk_cell BK377.out 2).trans rfl
  have hfs17 := blk_frozen BK377.out 2
  have hns17_0 := NB369_377.out
  have hns17_1 := NB370_377.out
  have hns17_3 := NB378_377.out
  have hms17_0 := NB377_369.out
  have hms17_1 := NB377_370.out
  have hms17_3 := NB377_378.out
  refine skip_ (w1 := ?_) (by rfl) rfl ?_ ?_
  rotate_left
  · go_simp
    rfl
  refine hK.out _ _ ⟨((cell_far (p := ⟨gb377, _, none⟩) NB369_377.out _).trans (((cell_far (p := ⟨gb377, _, none⟩) NB369_377.out _).trans (((cell_far (p := ⟨gb377, _, none⟩) NB369_377.out _).trans (hHeld.1)))))), ((cell_far (p := ⟨gb377, _, none⟩) NB369_377.out _).trans (((cell_far (p := ⟨gb377, _, none⟩) NB369_377.out _).trans (((cell_far (p := ⟨gb377, _, none⟩) NB369_377.out _).trans (hHeld.2.1)))))), ((cell_far (p := ⟨gb377, _, none⟩) NB369_377.out _).trans (((cell_far (p := ⟨gb377, _, none⟩) NB369_377.out _).trans (((cell_far (p := ⟨gb377, _, none⟩) NB369_377.out _).trans (hHeld.2.2.1)))))), ((cell_far (p := ⟨gb377, _, none⟩) NB370_377.out _).trans (((cell_far (p := ⟨gb377, _, none⟩) NB370_377.out _).trans (((cell_far (p := ⟨gb377, _, none⟩) NB370_377.out _).trans (hHeld.2.2.2.1)))))), ((cell_far (p := ⟨gb377, _, none⟩) NB370_377.out _).trans (((cell_far (p := ⟨gb377, _, none⟩) NB370_377.out _).trans (((cell_far (p := ⟨gb377, _, none⟩) NB370_377.out _).trans (hHeld.2.2.2.2.1)))))), ((cell_far (p := ⟨gb377, _, none⟩) NB370_377.out _).trans (((cell_far (p := ⟨gb377, _, none⟩) NB370_377.out _).trans (((cell_far (p := ⟨gb377, _, none⟩) NB370_377.out _).trans (hHeld.2.2.2.2.2))))))⟩ (fun hHeld => ?_)
  clear hK K
  refine one_ (i := 7) (N := none) #[true, true, true, true, true, true, true, true] rfl rfl (one_of HT_.out (by kernel_rfl)) (by decide) (fun K hK => ?_)
  have hs18 : w14.cell? ⟨gb378, 0, none⟩ = some (.int .i8 0) := (blk_cell BK378.out 0).trans rfl
  have hfs18 := blk_frozen BK378.out 0
  have hns18_0 := NB369_378.out
  have hns18_1 := NB370_378.out
  have hns18_2 := NB377_378.out
  have hms18_0 := NB378_369.out
  have hms18_1 := NB378_370.out
  have hms18_2 := NB378_377.out
  have hs19 : w14.cell? ⟨gb378, 1, none⟩ = some (.int .i8 0) := (blk_cell BK378.out 1).trans rfl
  have hfs19 := blk_frozen BK378.out 1
  have hns19_0 := NB369_378.out
  have hns19_1 := NB370_378.out
  have hns19_2 := NB377_378.out
  have hms19_0 := NB378_369.out
  have hms19_1 := NB378_370.out
  have hms19_2 := NB378_377.out
  have hs20 : w14.cell? ⟨gb378, 2, none⟩ = some (.int .i8 0) := (blk_cell BK378.out 2).trans rfl
  have hfs20 := blk_frozen BK378.out 2
  have hns20_0 := NB369_378.out
  have hns20_1 := NB370_378.out
  have hns20_2 := NB377_378.out
  have hms20_0 := NB378_369.out
  have hms20_1 := NB378_370.out
  have hms20_2 := NB378_377.out
  refine skip_ (w1 := ?_) (by rfl) rfl ?_ ?_
  rotate_left
  · go_simp
    rfl
  refine hK.out _ _ ⟨((cell_far (p := ⟨gb378, _, none⟩) NB369_378.out _).trans (((cell_far (p := ⟨gb378, _, none⟩) NB369_378.out _).trans (((cell_far (p := ⟨gb378, _, none⟩) NB369_378.out _).trans (hHeld.1)))))), ((cell_far (p := ⟨gb378, _, none⟩) NB369_378.out _).trans (((cell_far (p := ⟨gb378, _, none⟩) NB369_378.out _).trans (((cell_far (p := ⟨gb378, _, none⟩) NB369_378.out _).trans (hHeld.2.1)))))), ((cell_far (p := ⟨gb378, _, none⟩) NB369_378.out _).trans (((cell_far (p := ⟨gb378, _, none⟩) NB369_378.out _).trans (((cell_far (p := ⟨gb378, _, none⟩) NB369_378.out _).trans (hHeld.2.2.1)))))), ((cell_far (p := ⟨gb378, _, none⟩) NB370_378.out _).trans (((cell_far (p := ⟨gb378, _, none⟩) NB370_378.out _).trans (((cell_far (p := ⟨gb378, _, none⟩) NB370_378.out _).trans (hHeld.2.2.2.1)))))), ((cell_far (p := ⟨gb378, _, none⟩) NB370_378.out _).trans (((cell_far (p := ⟨gb378, _, none⟩) NB370_378.out _).trans (((cell_far (p := ⟨gb378, _, none⟩) NB370_378.out _).trans (hHeld.2.2.2.2.1)))))), ((cell_far (p := ⟨gb378, _, none⟩) NB370_378.out _).trans (((cell_far (p := ⟨gb378, _, none⟩) NB370_378.out _).trans (((cell_far (p := ⟨gb378, _, none⟩) NB370_378.out _).trans (hHeld.2.2.2.2.2))))))⟩ (fun hHeld => ?_)
  clear hK K
  refine done_ (done_of HT_.out (by kernel_rfl)) ?_
  have hnb21 := NB377_369.out
  have hnc21 := NB369_377.out
  have hnb22 := NB377_370.out
  have hnc22 := NB370_377.out
  have hnb23 := NB377_378.out
  have hnc23 := NB378_377.out
  have hcz24_0 : w14.cell? ⟨gb377, 0, none⟩ = some (.int .i8 0) := (blk_cell BK377.out 0).trans rfl
  have hcz24_1 : w14.cell? ⟨gb377, 1, none⟩ = some (.int .i8 0) := (blk_cell BK377.out 1).trans rfl
  have hcz24_2 : w14.cell? ⟨gb377, 2, none⟩ = some (.int .i8 0) := (blk_cell BK377.out 2).trans rfl
  have hfz24_0 := blk_frozen BK377.out 0
  have hfz24_1 := blk_frozen BK377.out 1
  have hfz24_2 := blk_frozen BK377.out 2
  have hnb25 := NB378_369.out
  have hnc25 := NB369_378.out
  have hnb26 := NB378_370.out
  have hnc26 := NB370_378.out
  have hcz27_0 : w14.cell? ⟨gb378, 0, none⟩ = some (.int .i8 0) := (blk_cell BK378.out 0).trans rfl
  have hcz27_1 : w14.cell? ⟨gb378, 1, none⟩ = some (.int .i8 0) := (blk_cell BK378.out 1).trans rfl
  have hcz27_2 : w14.cell? ⟨gb378, 2, none⟩ = some (.int .i8 0) := (blk_cell BK378.out 2).trans rfl
  have hfz27_0 := blk_frozen BK378.out 0
  have hfz27_1 := blk_frozen BK378.out 1
  have hfz27_2 := blk_frozen BK378.out 2
  have H := HLATE.out
  clear HLATE
  by_cases c5 : t371 < t374
  rotate_left
  · rw [if_neg c5] at H
    have c5b0 : decide (t371 < t374) = false := decide_eq_false c5
    clear c5
    obtain rfl := Option.some.inj H
    try go_wp2
    go_ret
    exact ⟨by first | rfl | (simp [errW_none, errW_some] <;> rfl) | (simp [*, errW_none, errW_some] <;> rfl), by repeat (first | (with_reducible first | exact HB.out | apply below_alloc | apply pw_below_drewN | apply below_drew1 | refine below_set ?_ GE369.out | refine below_set ?_ GE370.out | refine below_set ?_ GE377.out | refine below_set ?_ GE378.out) | exact HB.out)⟩
  rw [if_pos c5] at H
  have c5b0 : decide (t371 < t374) = true := decide_eq_true c5
  clear c5
  by_cases c6 : t372 < t375
  rotate_left
  · rw [if_neg c6] at H
    have c6b0 : decide (t372 < t375) = false := decide_eq_false c6
    clear c6
    obtain rfl := Option.some.inj H
    try go_wp2
    go_ret
    exact ⟨by first | rfl | (simp [errW_none, errW_some] <;> rfl) | (simp [*, errW_none, errW_some] <;> rfl), by repeat (first | (with_reducible first | exact HB.out | apply below_alloc | apply pw_below_drewN | apply below_drew1 | refine below_set ?_ GE369.out | refine below_set ?_ GE370.out | refine below_set ?_ GE377.out | refine below_set ?_ GE378.out) | exact HB.out)⟩
  rw [if_pos c6] at H
  have c6b0 : decide (t372 < t375) = true := decide_eq_true c6
  clear c6
  obtain rfl := Option.some.inj H
  try go_wp2
  go_ret
  exact ⟨by first | rfl | (simp [errW_none, errW_some] <;> rfl) | (simp [*, errW_none, errW_some] <;> rfl), by repeat (first | (with_reducible first | exact HB.out | apply below_alloc | apply pw_below_drewN | apply below_drew1 | refine below_set ?_ GE369.out | refine below_set ?_ GE370.out | refine below_set ?_ GE377.out | refine below_set ?_ GE378.out) | exact HB.out)⟩
end Go.Proofs.Ytipdmnibjkdpcaa.P

namespace Go.Proofs.Ytipdmnibjkdpcaa.P
open Go.RowKit Go.Proofs.YtipdmnibjkdpcaaW.PrintWords Go.Proofs.YtipdmnibjkdpcaaW.PrintLast Go.Proofs.YtipdmnibjkdpcaaW.PrintMore
attribute [local go_sem] max2_int min2_int max_two min_two max_three min_three max_four min_four
set_option linter.unusedVariables false
set_option linter.unusedSimpArgs false
section
variable {P : Program} {ops : Array Oper} {Q : Exit → Act → World → Prop}
theorem impl_mayPile.goesFC_ {oi : Oper} {N : Option Tmp} {a : Act} {w : World} {K : Act → World → Prop} {f : FuncId} {fn : Func} {x : Operand} {ags : Array Operand} {ts : Array TypeId} {lb : Array Value} (hf : P.funcs[f]? = some fn) (hname : (fn.name == "runtime.NumGoroutine") = false) (hb : fn.body.isSome = true) (args : Array Value)
    (hw : Region.wanted oi (yielded ops a.tmps) = true) (hN : oi.dst = N) (hop : oi.op = .call { callee := .value x, args := ags, argTypes := ts }) (hargs : ags.map a.eval = args)
    (h : Calls P f (args ++ lb) w fun e w' => ∃ v, e = .returned v ∧ K (a.put N v) w') (hfv : a.eval x = .func (.func f) #[] lb := by rfl) : if Region.wanted oi (yielded ops a.tmps) = true then Oper.wp P oi a w K Q else K (a.put N undef) w := by
  refine call_ f (args ++ lb) hw hN ?_ h
  have he := enters_ hf hname hb (args ++ lb) w
  have hfv' : a.eval x = .func (.func f) #[] lb := hfv
  unfold execOp
  simp [hop, resolve, Deferred.ofValue, invoke, hargs, he, hfv']
end
end Go.Proofs.Ytipdmnibjkdpcaa.P

namespace Go.Proofs.Ytipdmnibjkdpcaa.P
open Go.RowKit Go.Proofs.YtipdmnibjkdpcaaW.PrintWords Go.Proofs.YtipdmnibjkdpcaaW.PrintLast Go.Proofs.YtipdmnibjkdpcaaW.PrintMore
attribute [local go_sem] max2_int min2_int max_two min_two max_three min_three max_four min_four
set_option linter.unusedVariables false
set_option linter.unusedSimpArgs false
-- needs 51
def impl_LongestNest_1.IsN (w0 W : World) (g L C : Nat) (A2 : Option Addr) (c2 : Nat) (l2 : List S64) (best : List Int) (N : Nat) : Prop :=
  ∃ vb : Value, W.heap[g]? = some (.cells #[vb] 22 (0, 0)) ∧ Kd.R (Kd.int .i64) 2 W w0.heap.size (fun k => k ≠ g ∧ k < N) vb best ∧ W.heap[L]? = some (.cells #[.slice A2 l2.length c2] 35 (0, 0)) ∧
    W.heap[C]? = some (.cells #[.func (.func 41) #[] #[.pointer (some ⟨g, 0, none⟩), .pointer (some ⟨L, 0, none⟩), .pointer (some ⟨C, 0, none⟩)]] 68 (0, 0)) ∧ (w0.heap.size ≤ g ∧ L ≠ g ∧ C ≠ g ∧ g < N ∧ L < N ∧ C < N ∧ N ≤ W.heap.size)
section
variable {w0 W W1 : World} {g L C : Nat} {A2 : Option Addr} {c2 : Nat} {l2 : List S64} {best : List Int} {N : Nat}
theorem impl_LongestNest_1.IsN.cL (h : impl_LongestNest_1.IsN w0 W g L C A2 c2 l2 best N) : W.heap[L]? = some (.cells #[.slice A2 l2.length c2] 35 (0, 0)) := by obtain ⟨vb, h1, h2, h3, h4, h5⟩ := h; exact h3
theorem impl_LongestNest_1.IsN.cC (h : impl_LongestNest_1.IsN w0 W g L C A2 c2 l2 best N) : W.heap[C]? = some (.cells #[.func (.func 41) #[] #[.pointer (some ⟨g, 0, none⟩), .pointer (some ⟨L, 0, none⟩), .pointer (some ⟨C, 0, none⟩)]] 68 (0, 0)) := by obtain ⟨vb, h1, h2, h3, h4, h5⟩ := h; exact h4
theorem impl_LongestNest_1.IsN.ge (h : impl_LongestNest_1.IsN w0 W g L C A2 c2 l2 best N) : w0.heap.size ≤ g := by obtain ⟨vb, h1, h2, h3, h4, h5⟩ := h; exact h5.1
theorem impl_LongestNest_1.IsN.ltN (h : impl_LongestNest_1.IsN w0 W g L C A2 c2 l2 best N) : g < N := by obtain ⟨vb, h1, h2, h3, h4, h5⟩ := h; exact h5.2.2.2.1
theorem impl_LongestNest_1.IsN.le (h : impl_LongestNest_1.IsN w0 W g L C A2 c2 l2 best N) : N ≤ W.heap.size := by obtain ⟨vb, h1, h2, h3, h4, h5⟩ := h; exact h5.2.2.2.2.2.2
theorem impl_LongestNest_1.IsN.lt (h : impl_LongestNest_1.IsN w0 W g L C A2 c2 l2 best N) : g < W.heap.size := Nat.lt_of_lt_of_le h.ltN h.le
theorem impl_LongestNest_1.IsN.up (h : impl_LongestNest_1.IsN w0 W g L C A2 c2 l2 best N) : impl_LongestNest_1.IsN w0 W g L C A2 c2 l2 best W.heap.size := by
  obtain ⟨vb, h1, h2, h3, h4, h5, h6, h7, h8, h9, h10, h11⟩ := h
  exact ⟨vb, h1, Kd.R_mono h2 (fun k hk => ⟨hk.1, by omega⟩), h3, h4, h5, h6, h7, by omega, by omega, by omega, Nat.le_refl _⟩
theorem impl_LongestNest_1.IsN.step (h : impl_LongestNest_1.IsN w0 W g L C A2 c2 l2 best N) (hs : W.heap.size ≤ W1.heap.size) (hq : ∀ k, k < N → W1.heap[k]? = W.heap[k]?) : impl_LongestNest_1.IsN w0 W1 g L C A2 c2 l2 best N := by
  obtain ⟨vb, h1, h2, h3, h4, h5, h6, h7, h8, h9, h10, h11⟩ := h
  exact ⟨vb, (hq g h8).trans h1, Kd.R_step h2 (fun k ho _ => hq k ho.2), (hq L h9).trans h3, (hq C h10).trans h4, h5, h6, h7, h8, h9, h10, by omega⟩
theorem impl_LongestNest_1.IsN.below (h : impl_LongestNest_1.IsN w0 W g L C A2 c2 l2 best N) (hb : Below W.heap.size W W1) : impl_LongestNest_1.IsN w0 W1 g L C A2 c2 l2 best N := h.step hb.size (fun k hk => hb.block k (Nat.lt_of_lt_of_le hk h.le))
theorem impl_LongestNest_1.IsN.alloc (h : impl_LongestNest_1.IsN w0 W g L C A2 c2 l2 best N) (o : Obj) : impl_LongestNest_1.IsN w0 (W.alloc o) g L C A2 c2 l2 best N := h.below (below_alloc (Below.refl _ _) o)
theorem impl_LongestNest_1.IsN.drewN (h : impl_LongestNest_1.IsN w0 W g L C A2 c2 l2 best N) (m : Nat) : impl_LongestNest_1.IsN w0 (W.drewN m) g L C A2 c2 l2 best N := h
theorem impl_LongestNest_1.IsN.drew (h : impl_LongestNest_1.IsN w0 W g L C A2 c2 l2 best N) : impl_LongestNest_1.IsN w0 W.drew g L C A2 c2 l2 best N := h
theorem impl_LongestNest_1.IsN.grown {row : Option Nat} (h : impl_LongestNest_1.IsN w0 W g L C A2 c2 l2 best N) (hw : W.grownBy W1 row) (hr : row = none ∨ ∃ b, row = some b ∧ N ≤ b) : impl_LongestNest_1.IsN w0 W1 g L C A2 c2 l2 best N :=
  h.step hw.size (fun k hk => hw.block k (Nat.lt_of_lt_of_le hk h.le) (fun e => by
    rcases hr with rfl | ⟨b, rfl, hb⟩
    · cases e
    · injection e with e; omega))
theorem impl_LongestNest_1.IsN.far (h : impl_LongestNest_1.IsN w0 W g L C A2 c2 l2 best N) {b j : Nat} (hb : N ≤ b) (u : Value) : impl_LongestNest_1.IsN w0 (W.setCell ⟨b, j, none⟩ u) g L C A2 c2 l2 best N := by
  obtain ⟨vb, h1, h2, h3, h4, h5, h6, h7, h8, h9, h10, h11⟩ := h
  exact ⟨vb, blk_far h1 (p := ⟨b, j, none⟩) (by show g ≠ b; omega) u, Kd.R_far h2 (p := ⟨b, j, none⟩) (fun k hk => by show k ≠ b; have := hk.2; omega) u, blk_far h3 (p := ⟨b, j, none⟩) (by show L ≠ b; omega) u, blk_far h4 (p := ⟨b, j, none⟩) (by show C ≠ b; omega) u, h5, h6, h7, h8, h9, h10, by rw [World.size_setCell]; exact h11⟩
theorem impl_LongestNest_1.IsN.put (h : impl_LongestNest_1.IsN w0 W g L C A2 c2 l2 best N) {u : Value} {m : List Int} (hu : Kd.R (Kd.int .i64) 2 W w0.heap.size (fun k => k ≠ g ∧ k < N) u m) : impl_LongestNest_1.IsN w0 (W.setCell ⟨g, 0, none⟩ u) g L C A2 c2 l2 m N := by
  obtain ⟨vb, h1, h2, h3, h4, h5, h6, h7, h8, h9, h10, h11⟩ := h
  exact ⟨u, blk_put h1 0 _ rfl, Kd.R_far hu (p := ⟨g, 0, none⟩) (fun k hk => hk.1) u, blk_far h3 (p := ⟨g, 0, none⟩) h6 u, blk_far h4 (p := ⟨g, 0, none⟩) h7 u, h5, h6, h7, h8, h9, h10, by rw [World.size_setCell]; exact h11⟩
end
mutual
def impl_LongestNest_1.j0 : Nat → List Int → List (S64) → List Int → Option (List Int)
  | 0, _, _, _ => none
  | k + 1, x0, x2, b => impl_LongestNest_1.l0 k x0 x2 x2 (x2.length : Int) 0 b
def impl_LongestNest_1.l0 : Nat → List Int → List (S64) → List (S64) → Int → Int → List Int → Option (List Int)
  | 0, _, _, _, _, _, _ => none
  | k + 1, x0, x2, x13, x14, x15, b => if x15 < x14 then (if 0 ≤ x15 then (if x15 < (x13.length : Int) then (if (x0.length : Int) = 0 then (impl_LongestNest_1.j2 k x0 x2 x15 x13 x14 x15 true b) else (if 0 ≤ (wrap64 ((x0.length : Int) - 1)) then (if (wrap64 ((x0.length : Int) - 1)) < (x0.length : Int) then (if 0 ≤ (rd x0 (wrap64 ((x0.length : Int) - 1))) then (if (rd x0 (wrap64 ((x0.length : Int) - 1))) < (x2.length : Int) then ((impl_Box_inside.f k ((rd_T64 x2 (rd x0 (wrap64 ((x0.length : Int) - 1)))).f0) ((rd_T64 x2 (rd x0 (wrap64 ((x0.length : Int) - 1)))).f1) ((rd_T64 x2 (rd x0 (wrap64 ((x0.length : Int) - 1)))).f2) ((rd_T64 x13 x15).f0) ((rd_T64 x13 x15).f1) ((rd_T64 x13 x15).f2)).bind fun t383 => (impl_LongestNest_1.j2 k x0 x2 x15 x13 x14 x15 t383 b)) else (none)) else (none)) else (none)) else (none))) else (none)) else (none)) else (some b)
def impl_LongestNest_1.j2 : Nat → List Int → List (S64) → Int → List (S64) → Int → Int → Bool → List Int → Option (List Int)
  | 0, _, _, _, _, _, _, _, _ => none
  | k + 1, x0, x2, x5, x13, x14, x15, x35, b => if x35 = true then ((slices_Clone_int64_int64.f x0).bind fun t384 => ((some (([x5] : List Int) : List Int)).bind fun y387 => (if t384.length + y387.length < 17592186044416 then ((impl_LongestNest_1.f k (t384 ++ y387) b x2).bind fun bt393 => (impl_LongestNest_1.l0 k x0 x2 x13 x14 (wrap64 (x15 + 1)) bt393)) else (none)))) else (impl_LongestNest_1.l0 k x0 x2 x13 x14 (wrap64 (x15 + 1)) b)
def impl_LongestNest_1.f : Nat → List Int → List Int → List (S64) → Option (List Int)
  | 0, _, _, _ => none
  | k + 1, l0, b, l2 => if (l0.length : Int) > (b.length : Int) then (impl_LongestNest_1.j0 k l0 l2 l0) else (impl_LongestNest_1.j0 k l0 l2 b)
end
def impl_LongestNest_1.T5 : Bool × List (List Nat × List Nat) := (true, [([], []), ([0], [0]), ([1], [1]), ([2], [2]), ([3], [3]), ([3], [3]), ([3], [3]), ([6, 3], [3, 6]), ([7, 3], [3, 7]), ([5, 8, 3], [3, 5, 8]), ([9, 3], [3, 9]), ([4, 10, 3], [3, 4, 10]), ([11, 3], [3, 11]), ([3], [3]), ([12, 13, 3, 3], [3, 12, 13]), ([3, 14], [3, 14])])
def impl_LongestNest_1.B5 : List Nat := [0, 1, 3, 7, 15, 15, 15, 79, 207, 495, 1007, 2047, 4095, 15, 16383, 32767]
theorem impl_LongestNest_1.tab5 : rtab .any (opsOf Try.f41 5) = impl_LongestNest_1.T5 := by kernel_rfl
theorem impl_LongestNest_1.bits5 : waitsOk impl_LongestNest_1.T5.2 impl_LongestNest_1.B5 = true := by kernel_rfl
set_option maxHeartbeats 16000000 in
set_option maxRecDepth 100000 in
theorem impl_LongestNest_1.calls (g L C : Nat) (w0 : World) (k : Nat) : ∀ (A0 : Option Addr) (c0 : Nat) (l0 best : List Int) (A2 : Option Addr) (c2 : Nat) (l2 : List S64) (r : List Int) (w : World) (hI : impl_LongestNest_1.IsN w0 w g L C A2 c2 l2 best w.heap.size) (hB : Below w0.heap.size w0 w) (hn0 : Kd.R (Kd.int .i64) 2 w w0.heap.size (fun k => k ≠ g) (.slice A0 l0.length c0) l0) (hr2 : ∀ W_, KeepBut w W_ g none → Kd.C k64 W_ A2 l2.length l2) (hc2 : l2.length ≤ c2) (h : impl_LongestNest_1.f k l0 best l2 = some r),
    Calls Try.prog 41 #[.slice A0 l0.length c0, .pointer (some ⟨g, 0, none⟩), .pointer (some ⟨L, 0, none⟩), .pointer (some ⟨C, 0, none⟩)] w fun e w' => e = .returned (.tuple #[]) ∧ impl_LongestNest_1.IsN w0 w' g L C A2 c2 l2 r w'.heap.size ∧ Below w0.heap.size w0 w' ∧ KeepBut w w' g none := by
  induction k using Nat.strongRecOn with
  | _ k ih =>
  intro A0 c0 l0 best A2 c2 l2 r w hI hB hn0 hr2 hc2 h
  cases k with
  | zero => exact absurd h (by simp [impl_LongestNest_1.f])
  | succ k =>
  simp only [impl_LongestNest_1.f] at h
  have hu64 := Try.underlying64
  have hf0 : ∀ ad, A0 = some ad → 0 < l0.length → ad.block ≠ g := fun ad e_ hp_ => by
    subst e_
    exact Kd.foot_ne (Kd.C_foot_own hn0 (g := g) (fun k_ hk => hk)) hp_ (by decide)
  have HR0 := Aside0.mk (Kd.R_reads' hn0).2.2
  have HC0 := Aside0.mk (Kd.R_reads' hn0).2.1
  have HN0 := Aside0.mk hn0
  clear hn0
  have HR2 := Aside0.mk hr2
  have HC2 := Aside0.mk hc2
  clear hr2 hc2
  have HI1 := Aside0.mk hI
  have HK := Aside0.mk (KeepBut.refl w g none)
  have HL := Aside0.mk hB.size
  have HW0 := Aside0.mk hB.size
  have HB := Aside0.mk hB
  clear hB
  have HC4 := Aside0.mk h
  clear h
  obtain ⟨vb5, hblk5, hR5, hrest5⟩ := hI
  clear hrest5
  obtain ⟨Ab5, cb5, eb5⟩ := Kd.R_slice hR5
  subst eb5
  clear hR5
  have hcz5_0 : w.cell? ⟨g, 0, none⟩ = some (.slice Ab5 best.length cb5) := (blk_cell hblk5 0).trans rfl
  have hfz5_0 := blk_frozen hblk5 0
  clear hblk5
  go_enter Try.func41, Try.ntmps41
  go_upto_if 11 with (fail)
  go_cut [] (fun wc => ∃ (kq : Nat) (x2003_3 : List Int), Aside0 (impl_LongestNest_1.j0 kq l0 l2 x2003_3 = some r) ∧ Aside0 (kq ≤ k) ∧ Aside0 (impl_LongestNest_1.IsN w0 wc g L C A2 c2 l2 x2003_3 w.heap.size) ∧ Aside0 (KeepBut w wc g none) ∧ Aside0 (Below w0.heap.size w0 wc))
  case first =>
    have H := HC4.out
    clear HC4
    by_cases c6 : (l0.length : Int) > (best.length : Int)
    rotate_left
    · rw [if_neg c6] at H
      have c6b0 : decide ((best.length : Int) < (l0.length : Int)) = false := decide_eq_false c6
      have c6b1 : decide (best.length < l0.length) = false := decide_eq_false (by omega)
      clear c6
      (first | rw [c6b0] | rw [c6b1] | (simp only [i64_w, i32_w]; rw [c6b0]) | skip)
      have H' := Aside0.mk H
      clear H
      go_wp2
      go_meet
      case rel => exact ⟨_, best, H', ⟨by first | omega | exact Nat.le_refl _⟩, ⟨by repeat (first | (with_reducible first | exact HI1.out | apply impl_LongestNest_1.IsN.alloc | apply impl_LongestNest_1.IsN.drewN | apply impl_LongestNest_1.IsN.drew) | exact HI1.out)⟩, ⟨by repeat (first | (with_reducible first | exact HK.out | apply KeepBut.set_ | apply keep_drewN | apply keep_drew | apply keep_alloc) | exact HK.out)⟩, ⟨by repeat (first | (with_reducible first | exact HB.out | apply below_alloc | apply pw_below_drewN | apply below_drew1) | exact HB.out)⟩⟩
    rw [if_pos c6] at H
    have c6b0 : decide ((best.length : Int) < (l0.length : Int)) = true := decide_eq_true c6
    have c6b1 : decide (best.length < l0.length) = true := decide_eq_true (by omega)
    clear c6
    (first | rw [c6b0] | rw [c6b1] | (simp only [i64_w, i32_w]; rw [c6b0]) | skip)
    have H' := Aside0.mk H
    clear H
    go_wp2
    go_meet
    case rel => exact ⟨_, l0, H', ⟨by first | omega | exact Nat.le_refl _⟩, ⟨by (with_reducible repeat (first | apply impl_LongestNest_1.IsN.drewN | apply impl_LongestNest_1.IsN.drew)); exact impl_LongestNest_1.IsN.put (by repeat (first | (with_reducible first | exact HI1.out | apply impl_LongestNest_1.IsN.drewN | apply impl_LongestNest_1.IsN.drew) | exact HI1.out)) (Kd.R_mono (Kd.R_bound (by (with_reducible repeat (first | apply Kd.R_drewN | apply Kd.R_drew)); exact HN0.out)) (fun k_ hk => ⟨hk.1, hk.2.2.1⟩))⟩, ⟨by repeat (first | (with_reducible first | exact HK.out | apply KeepBut.set_ | apply keep_drewN | apply keep_drew | apply keep_alloc) | exact HK.out)⟩, ⟨by repeat (first | (with_reducible first | exact HB.out | apply below_alloc | apply pw_below_drewN | apply below_drew1 | refine below_set ?_ (impl_LongestNest_1.IsN.ge HI1.out)) | exact HB.out)⟩⟩
  case rest =>
    clear HC4
    try clear c2
    try clear p2
    try clear c4
    try clear c6
    try clear c6b0
    try clear hcz5_0
    try clear hcz5_1
    try clear hcz5_2
    try clear hcz5_3
    try clear hcz5_4
    try clear hcz7_0
    try clear hcz7_1
    try clear hcz7_2
    try clear hcz7_3
    try clear hcz7_4
    try clear hfz5_1
    try clear hfz5_2
    try clear hfz5_3
    try clear hfz5_4
    try clear hfz7_1
    try clear hfz7_2
    try clear hfz7_3
    try clear hfz7_4
    obtain ⟨kq, x2003_3, HA, HJ3, HI1, HK, HB⟩ := hcut
    cases kq with
    | zero => exact absurd HA.out (by simp [impl_LongestNest_1.j0])
    | succ kj3 =>
      have H := HA.out
      clear HA
      simp only [impl_LongestNest_1.j0] at H
      have H' := Aside0.mk H
      clear H
      have hcL0 : wc.cell? ⟨L, 0, none⟩ = some (.slice A2 l2.length c2) := (blk_cell (impl_LongestNest_1.IsN.cL HI1.out) 0).trans rfl
      go_wp2
      clear hcL0
      go_loopg [15] kj3 (fun kq v15 w' => ∃ (x15_2 : Int) (x2003_2 : List Int) (N : Nat), v15 = .int .i64 x15_2 ∧ Aside0 (impl_LongestNest_1.l0 kq l0 l2 l2 (l2.length : Int) x15_2 x2003_2 = some r) ∧ Aside0 (kq ≤ kj3) ∧ Aside0 (impl_LongestNest_1.IsN w0 w' g L C A2 c2 l2 x2003_2 N) ∧ Aside0 (w.heap.size ≤ N) ∧ Aside0 (KeepBut w w' g none) ∧ Aside0 (Below w0.heap.size w0 w'))
      case atStart => exact ⟨(0), (x2003_3), w.heap.size, (by first | rfl | (simp; done) | (simp [*]; done)), H', ⟨Nat.le_refl _⟩, ⟨by repeat (first | (with_reducible first | exact HI1.out | apply impl_LongestNest_1.IsN.alloc | apply impl_LongestNest_1.IsN.drewN | apply impl_LongestNest_1.IsN.drew) | exact HI1.out)⟩, ⟨Nat.le_refl _⟩, ⟨by repeat (first | (with_reducible first | exact HK.out | apply KeepBut.set_ | apply keep_drewN | apply keep_drew | apply keep_alloc) | exact HK.out)⟩, ⟨by repeat (first | (with_reducible first | exact HB.out | apply below_alloc | apply pw_below_drewN | apply below_drew1) | exact HB.out)⟩⟩
      case round =>
        clear H'
        try clear c2
        try clear p2
        try clear c4
        try clear c6
        try clear c6b0
        try clear hcz5_0
        try clear hcz5_1
        try clear hcz5_2
        try clear hcz5_3
        try clear hcz5_4
        try clear hcz7_0
        try clear hcz7_1
        try clear hcz7_2
        try clear hcz7_3
        try clear hcz7_4
        try clear hfz5_1
        try clear hfz5_2
        try clear hfz5_3
        try clear hfz5_4
        try clear hfz7_1
        try clear hfz7_2
        try clear hfz7_3
        try clear hfz7_4
        try clear p2
        obtain ⟨x15_2, x2003_2, N, rfl, HA, HK2, HI1, HNW, HK, HB⟩ := hrel
        cases gk with
        | zero => exact absurd HA.out (by simp [impl_LongestNest_1.l0])
        | succ k2 =>
          have H := HA.out
          clear HA
          simp only [impl_LongestNest_1.l0] at H
          by_cases c8 : x15_2 < (l2.length : Int)
          rotate_left
          · rw [if_neg c8] at H
            have c8b0 : decide (x15_2 < (l2.length : Int)) = false := decide_eq_false c8
            clear c8
            obtain rfl := Option.some.inj H
            go_wp2
            first | go_end0 | ((try simp only [Exit.inBlock, Exit.then]); refine bodyPost_ret (results_none rfl _ _ _) rfl ?_)
            exact ⟨rfl, impl_LongestNest_1.IsN.up (show impl_LongestNest_1.IsN w0 _ g L C A2 c2 l2 x2003_2 N from by repeat (first | (with_reducible first | exact HI1.out | apply impl_LongestNest_1.IsN.alloc | apply impl_LongestNest_1.IsN.drewN | apply impl_LongestNest_1.IsN.drew) | exact HI1.out)), by repeat (first | (with_reducible first | exact HB.out | apply below_alloc | apply pw_below_drewN | apply below_drew1) | exact HB.out), by repeat (first | (with_reducible first | exact HK.out | apply KeepBut.set_ | apply keep_drewN | apply keep_drew | apply keep_alloc) | exact HK.out)⟩
          rw [if_pos c8] at H
          have c8b0 : decide (x15_2 < (l2.length : Int)) = true := decide_eq_true c8
          clear c8
          by_cases c9 : 0 ≤ x15_2
          rotate_left
          · rw [if_neg c9] at H
            exact absurd H (by simp)
          rw [if_pos c9] at H
          have c9b0 : decide (0 ≤ x15_2) = true := decide_eq_true c9
          clear c9
          by_cases c10 : x15_2 < (l2.length : Int)
          rotate_left
          · rw [if_neg c10] at H
            exact absurd H (by simp)
          rw [if_pos c10] at H
          have c10b0 : decide (x15_2 < (l2.length : Int)) = true := decide_eq_true c10
          clear c10
          have HC11 := Aside0.mk H
          clear H
          have p379 : 0 ≤ (x15_2 : Int) := of_decide_eq_true (by first | (with_reducible assumption) | assumption)
          have q379 : x15_2 < (l2.length : Int) := of_decide_eq_true (by first | (with_reducible assumption) | assumption)
          obtain ⟨ad379, e379, hx379_0, hx379_1, hx379_2⟩ := at_T64 (Kd.C_foot_now HR2.out HK.out) x15_2 p379 q379
          cases e379
          replace p379 := eq_true p379
          replace q379 := eq_true q379
          go_upto_region 5 with (first | ((with_reducible refine gate_dst (N := 6) rfl ?_); (try (refine gate_guard (by rfl) ?_; dsimp only)); refine box_event ?hg (N := 6) ?hd (cs := #[.int .i8 0, .int .i8 0, .int .i8 0]) (t := 64) ?hr ?_; (case hd => rfl); (case hg => rfl); (case hr => first | (go_simp; done) | (go_simp; rfl)); intro gb380 hg w12 hbox hb; have n0_ := Aside0.mk (impl_LongestNest_1.IsN.below (by repeat (first | (with_reducible first | exact HI1.out | apply impl_LongestNest_1.IsN.alloc | apply impl_LongestNest_1.IsN.drewN | apply impl_LongestNest_1.IsN.drew) | exact HI1.out)) hb); have n1_ := Aside0.mk (KeepBut.trans (by repeat (first | (with_reducible first | exact HK.out | apply KeepBut.set_ | apply keep_drewN | apply keep_drew | apply keep_alloc) | exact HK.out)) (KeepBut.of_below hb g none) (.inl rfl)); have n2_ := Aside0.mk (below_step (by repeat (first | (with_reducible first | exact HB.out | apply below_alloc | apply pw_below_drewN | apply below_drew1 | refine below_set ?_ (impl_LongestNest_1.IsN.ge HI1.out)) | exact HB.out)) hb); have n3_ := Aside0.mk (hbox); have n4_ := Aside0.mk ((by rw [hg]; exact (keep_size (w := w) (g := g) (row := none) (by repeat (first | (with_reducible first | exact HK.out | apply KeepBut.set_ | apply keep_drewN | apply keep_drew | apply keep_alloc) | exact HK.out))) : w.heap.size ≤ gb380)); have n5_ := Aside0.mk ((Nat.le_trans HW0.out (by rw [hg]; exact (keep_size (w := w) (g := g) (row := none) (by repeat (first | (with_reducible first | exact HK.out | apply KeepBut.set_ | apply keep_drewN | apply keep_drew | apply keep_alloc) | exact HK.out))) : w.heap.size ≤ gb380) : w0.heap.size ≤ gb380)); have n6_ := Aside0.mk ((by rw [hg]; exact Nat.ne_of_lt (impl_LongestNest_1.IsN.lt (show impl_LongestNest_1.IsN w0 _ g L C (some ad379) c2 l2 x2003_2 N from by repeat (first | (with_reducible first | exact HI1.out | apply impl_LongestNest_1.IsN.alloc | apply impl_LongestNest_1.IsN.drewN | apply impl_LongestNest_1.IsN.drew) | exact HI1.out))) : g ≠ gb380)); have n8_ := Aside0.mk ((by rw [hg]; exact impl_LongestNest_1.IsN.le (show impl_LongestNest_1.IsN w0 _ g L C (some ad379) c2 l2 x2003_2 N from by repeat (first | (with_reducible first | exact HI1.out | apply impl_LongestNest_1.IsN.alloc | apply impl_LongestNest_1.IsN.drewN | apply impl_LongestNest_1.IsN.drew) | exact HI1.out))) : N ≤ gb380); have n7_ := Aside0.mk ((by rw [hg]; exact Nat.ne_of_gt (impl_LongestNest_1.IsN.lt (show impl_LongestNest_1.IsN w0 _ g L C (some ad379) c2 l2 x2003_2 N from by repeat (first | (with_reducible first | exact HI1.out | apply impl_LongestNest_1.IsN.alloc | apply impl_LongestNest_1.IsN.drewN | apply impl_LongestNest_1.IsN.drew) | exact HI1.out))) : gb380 ≠ g)); clear HI1; clear HK; clear HB; have HI1 := n0_; have HK := n1_; have HB := n2_; have BK380 := n3_; have GW380 := n4_; have GE380 := n5_; have NB1_380 := n6_; have NB380_1 := n7_; have GN380 := n8_; clear n8_; clear n0_ n1_ n2_ n3_ n4_ n5_ n6_ n7_; clear hb hbox hg; have hnb13 := NB380_1.out; have hnc13 := NB1_380.out; have hcz14_0 : w12.cell? ⟨gb380, 0, none⟩ = some (.int .i8 0) := (blk_cell BK380.out 0).trans rfl; have hcz14_1 : w12.cell? ⟨gb380, 1, none⟩ = some (.int .i8 0) := (blk_cell BK380.out 1).trans rfl; have hcz14_2 : w12.cell? ⟨gb380, 2, none⟩ = some (.int .i8 0) := (blk_cell BK380.out 2).trans rfl; have hfz14_0 := blk_frozen BK380.out 0; have hfz14_1 := blk_frozen BK380.out 1; have hfz14_2 := blk_frozen BK380.out 2))
          (try simp only [Act.put, List.setIfInBounds_toArray, List.set_cons_zero, List.set_cons_succ])
          go_cut [35] (fun v35 wc => ∃ (kq : Nat) (x35_10 : Bool), v35 = .bool x35_10 ∧ Aside0 (impl_LongestNest_1.j2 kq l0 l2 x15_2 l2 (l2.length : Int) x15_2 x35_10 x2003_2 = some r) ∧ Aside0 (kq ≤ k2) ∧ Aside0 (wc.heap[gb380]? = some (.cells #[.int .i8 ((rd_T64 l2 x15_2).f0), .int .i8 ((rd_T64 l2 x15_2).f1), .int .i8 ((rd_T64 l2 x15_2).f2)] 64 (0, 0))) ∧ Aside0 (impl_LongestNest_1.IsN w0 wc g L C (some ad379) c2 l2 x2003_2 N) ∧ Aside0 (KeepBut w wc g none) ∧ Aside0 (Below w0.heap.size w0 wc))
          case first =>
            have H := HC11.out
            clear HC11
            by_cases c15 : (l0.length : Int) = 0
            rotate_left
            · rw [if_neg c15] at H
              have c15b0 : ((l0.length : Int) == 0) = false := beq_eq_false_iff_ne.mpr c15
              have c15b1 : ((l0.length : Int) != 0) = true := bne_iff_ne.mpr c15
              have c15b2 : ¬ (l0 = []) := fun h_ => c15 (by rw [h_]; rfl)
              (first | rw [c15b0] | (simp only [i64_w, i32_w]; rw [c15b0]) | skip)
              obtain ⟨ji18, hji18⟩ : ∃ j_ : Int, (wrap64 ((l0.length : Int) - 1)) = j_ := ⟨_, rfl⟩
              replace H : (if 0 ≤ (ji18) then (if (ji18) < (l0.length : Int) then (if 0 ≤ (rd l0 (ji18)) then (if (rd l0 (ji18)) < (l2.length : Int) then ((impl_Box_inside.f k2 ((rd_T64 l2 (rd l0 (ji18))).f0) ((rd_T64 l2 (rd l0 (ji18))).f1) ((rd_T64 l2 (rd l0 (ji18))).f2) ((rd_T64 l2 x15_2).f0) ((rd_T64 l2 x15_2).f1) ((rd_T64 l2 x15_2).f2)).bind fun t383 => (impl_LongestNest_1.j2 k2 l0 l2 x15_2 l2 (l2.length : Int) x15_2 t383 x2003_2)) else (none)) else (none)) else (none)) else (none)) = some r := by first | (rw [hji18] at H; exact H) | (simp only [hji18] at H ⊢; exact H)
              have hji18w : (IntKind.i64.wrap ((l0.length : Int) - 1)) = ji18 := (i64_w _).trans hji18
              by_cases c19 : 0 ≤ (ji18)
              rotate_left
              · rw [if_neg c19] at H
                exact absurd H (by simp)
              rw [if_pos c19] at H
              have c19b0 : decide (0 ≤ (ji18)) = true := decide_eq_true c19
              clear c19
              by_cases c20 : (ji18) < (l0.length : Int)
              rotate_left
              · rw [if_neg c20] at H
                exact absurd H (by simp)
              rw [if_pos c20] at H
              have c20b0 : decide ((ji18) < (l0.length : Int)) = true := decide_eq_true c20
              clear c20
              by_cases c21 : 0 ≤ (rd l0 (ji18))
              rotate_left
              · rw [if_neg c21] at H
                exact absurd H (by simp)
              rw [if_pos c21] at H
              have c21b0 : decide (0 ≤ (rd l0 (ji18))) = true := decide_eq_true c21
              clear c21
              by_cases c22 : (rd l0 (ji18)) < (l2.length : Int)
              rotate_left
              · rw [if_neg c22] at H
                exact absurd H (by simp)
              rw [if_pos c22] at H
              have c22b0 : decide ((rd l0 (ji18)) < (l2.length : Int)) = true := decide_eq_true c22
              clear c22
              replace H := Option.bind_eq_some_iff.mp H
              obtain ⟨t383, A230, H⟩ := H
              replace H : (impl_LongestNest_1.j2 k2 l0 l2 x15_2 l2 (l2.length : Int) x15_2 t383 x2003_2) = some r := H
              have A23 := Aside0.mk A230
              clear A230
              have H' := Aside0.mk H
              clear H
              try go_wp2
              have n0_ : Aside0 ((((w12.setCell ⟨gb380, 0, none⟩ (.int .i8 ((rd_T64 l2 x15_2).f0))).setCell ⟨gb380, 1, none⟩ (.int .i8 ((rd_T64 l2 x15_2).f1))).setCell ⟨gb380, 2, none⟩ (.int .i8 ((rd_T64 l2 x15_2).f2))).heap[gb380]? = some (.cells #[.int .i8 ((rd_T64 l2 x15_2).f0), .int .i8 ((rd_T64 l2 x15_2).f1), .int .i8 ((rd_T64 l2 x15_2).f2)] 64 (0, 0))) := ⟨by (with_reducible repeat (first | refine blk_drewN ?_ _ | refine blk_drew ?_ | refine blk_alloc ?_ _)); refine blk_put (cs := #[.int .i8 ((rd_T64 l2 x15_2).f0), .int .i8 ((rd_T64 l2 x15_2).f1), .int .i8 0]) ?_ 2 _ rfl; (with_reducible repeat (first | refine blk_drewN ?_ _ | refine blk_drew ?_ | refine blk_alloc ?_ _)); refine blk_put (cs := #[.int .i8 ((rd_T64 l2 x15_2).f0), .int .i8 0, .int .i8 0]) ?_ 1 _ rfl; (with_reducible repeat (first | refine blk_drewN ?_ _ | refine blk_drew ?_ | refine blk_alloc ?_ _)); refine blk_put (cs := #[.int .i8 0, .int .i8 0, .int .i8 0]) ?_ 0 _ rfl; (with_reducible repeat (first | refine blk_drewN ?_ _ | refine blk_drew ?_ | refine blk_alloc ?_ _)); exact BK380.out⟩
              have n1_ : Aside0 (impl_LongestNest_1.IsN w0 (((w12.setCell ⟨gb380, 0, none⟩ (.int .i8 ((rd_T64 l2 x15_2).f0))).setCell ⟨gb380, 1, none⟩ (.int .i8 ((rd_T64 l2 x15_2).f1))).setCell ⟨gb380, 2, none⟩ (.int .i8 ((rd_T64 l2 x15_2).f2))) g L C (some ad379) c2 l2 x2003_2 N) := ⟨by repeat (first | (with_reducible first | exact HI1.out | apply impl_LongestNest_1.IsN.alloc | apply impl_LongestNest_1.IsN.drewN | apply impl_LongestNest_1.IsN.drew | refine impl_LongestNest_1.IsN.far ?_ GN380.out _) | exact HI1.out)⟩
              have n2_ : Aside0 (KeepBut w (((w12.setCell ⟨gb380, 0, none⟩ (.int .i8 ((rd_T64 l2 x15_2).f0))).setCell ⟨gb380, 1, none⟩ (.int .i8 ((rd_T64 l2 x15_2).f1))).setCell ⟨gb380, 2, none⟩ (.int .i8 ((rd_T64 l2 x15_2).f2))) g none) := ⟨by repeat (first | (with_reducible first | exact HK.out | apply KeepBut.set_ | apply keep_drewN | apply keep_drew | apply keep_alloc | refine keep_far ?_ GW380.out _) | exact HK.out)⟩
              have n3_ : Aside0 (Below w0.heap.size w0 (((w12.setCell ⟨gb380, 0, none⟩ (.int .i8 ((rd_T64 l2 x15_2).f0))).setCell ⟨gb380, 1, none⟩ (.int .i8 ((rd_T64 l2 x15_2).f1))).setCell ⟨gb380, 2, none⟩ (.int .i8 ((rd_T64 l2 x15_2).f2)))) := ⟨by repeat (first | (with_reducible first | exact HB.out | apply below_alloc | apply pw_below_drewN | apply below_drew1 | refine below_set ?_ (impl_LongestNest_1.IsN.ge HI1.out) | refine below_set ?_ GE380.out) | exact HB.out)⟩
              (try clear BK380)
              (try clear HI1)
              (try clear HK)
              (try clear HB)
              generalize (((w12.setCell ⟨gb380, 0, none⟩ (.int .i8 ((rd_T64 l2 x15_2).f0))).setCell ⟨gb380, 1, none⟩ (.int .i8 ((rd_T64 l2 x15_2).f1))).setCell ⟨gb380, 2, none⟩ (.int .i8 ((rd_T64 l2 x15_2).f2))) = w24 at n0_ n1_ n2_ n3_ ⊢
              have BK380 := n0_
              have HI1 := n1_
              have HK := n2_
              have HB := n3_
              clear n0_ n1_ n2_ n3_
              have n0_ := Aside0.mk (blk_drew BK380.out)
              have n1_ := Aside0.mk (impl_LongestNest_1.IsN.drew HI1.out)
              have n2_ := Aside0.mk (keep_drew HK.out)
              have n3_ := Aside0.mk (below_drew1 HB.out)
              clear BK380
              clear HI1
              clear HK
              clear HB
              have BK380 := n0_
              have HI1 := n1_
              have HK := n2_
              have HB := n3_
              clear n0_ n1_ n2_ n3_
              have p381 : 0 ≤ ((ji18) : Int) := of_decide_eq_true (by first | (with_reducible assumption) | assumption)
              have q381 : (ji18) < (l0.length : Int) := of_decide_eq_true (by first | (with_reducible assumption) | assumption)
              obtain ⟨ad381, e381, hx381_0⟩ := Kd.at_int HR0.out (ji18) p381 q381
              have hw381_0 := hx381_0
              cases e381
              have hne381_0 := (show ((ad381.add ((ji18)).toNat) : Addr).block ≠ g from by first | (rw [add_block]; exact hf0 ad381 rfl (by omega)) | (show (Addr.add _ _).block ≠ _; rw [add_block]; exact hf0 ad381 rfl (by omega)) | exact hf0 ad381 rfl (by omega))
              replace hx381_0 := keep_cell HK.out hx381_0 (by first | (rw [add_block]; exact hf0 _ rfl (by omega)) | exact hf0 _ rfl (by omega) | exact hf0 ad381 rfl (by omega))
              replace p381 := eq_true p381
              replace q381 := eq_true q381
              have p382 : 0 ≤ ((rd l0 (ji18)) : Int) := of_decide_eq_true (by first | (with_reducible assumption) | assumption)
              have q382 : (rd l0 (ji18)) < (l2.length : Int) := of_decide_eq_true (by first | (with_reducible assumption) | assumption)
              obtain ⟨ad382, e382, hx382_0, hx382_1, hx382_2⟩ := at_T64 (Kd.C_foot_now HR2.out HK.out) (rd l0 (ji18)) p382 q382
              have hw382_2 := hx382_2
              have hw382_1 := hx382_1
              have hw382_0 := hx382_0
              obtain rfl : ad379 = ad382 := (by injection e382)
              have hne382_2 := (show (⟨(ad379.add (((rd l0 (ji18))).toNat * 3)).block, (ad379.add (((rd l0 (ji18))).toNat * 3)).off + 2, none⟩ : Addr).block ≠ g from by first | (rw [add_block]; exact Kd.foot_ne HR2.out (by omega) (by decide)) | (show (Addr.add _ _).block ≠ _; rw [add_block]; exact Kd.foot_ne HR2.out (by omega) (by decide)) | exact Kd.foot_ne HR2.out (by omega) (by decide) | (dsimp only; exact Kd.foot_ne HR2.out (by omega) (by decide)))
              have hlt382_2 := (Kd.foot_lt HR2.out (by omega) (by decide))
              have hne382_1 := (show (⟨(ad379.add (((rd l0 (ji18))).toNat * 3)).block, (ad379.add (((rd l0 (ji18))).toNat * 3)).off + 1, none⟩ : Addr).block ≠ g from by first | (rw [add_block]; exact Kd.foot_ne HR2.out (by omega) (by decide)) | (show (Addr.add _ _).block ≠ _; rw [add_block]; exact Kd.foot_ne HR2.out (by omega) (by decide)) | exact Kd.foot_ne HR2.out (by omega) (by decide) | (dsimp only; exact Kd.foot_ne HR2.out (by omega) (by decide)))
              have hlt382_1 := (Kd.foot_lt HR2.out (by omega) (by decide))
              have hne382_0 := (show ((ad379.add (((rd l0 (ji18))).toNat * 3)) : Addr).block ≠ g from by first | (rw [add_block]; exact Kd.foot_ne HR2.out (by omega) (by decide)) | (show (Addr.add _ _).block ≠ _; rw [add_block]; exact Kd.foot_ne HR2.out (by omega) (by decide)) | exact Kd.foot_ne HR2.out (by omega) (by decide) | (dsimp only; exact Kd.foot_ne HR2.out (by omega) (by decide)))
              have hlt382_0 := (Kd.foot_lt HR2.out (by omega) (by decide))
              replace p382 := eq_true p382
              replace q382 := eq_true q382
              refine start_ (n := 16) (S := fun w' => w'.cell? ⟨L, 0, none⟩ = some (.slice (some ad379) l2.length c2) ∧ w'.cell? ⟨gb380, 0, none⟩ = some (.int .i8 ((rd_T64 l2 x15_2).f0)) ∧ w'.cell? ⟨gb380, 1, none⟩ = some (.int .i8 ((rd_T64 l2 x15_2).f1)) ∧ w'.cell? ⟨gb380, 2, none⟩ = some (.int .i8 ((rd_T64 l2 x15_2).f2)) ∧ w'.cell? (ad381.add ((ji18)).toNat) = some (.int .i64 (rd l0 (ji18))) ∧ w'.cell? (ad379.add (((rd l0 (ji18))).toNat * 3)) = some (.int .i8 ((rd_T64 l2 (rd l0 (ji18))).f0)) ∧ w'.cell? ⟨(ad379.add (((rd l0 (ji18))).toNat * 3)).block, (ad379.add (((rd l0 (ji18))).toNat * 3)).off + 1, none⟩ = some (.int .i8 ((rd_T64 l2 (rd l0 (ji18))).f1)) ∧ w'.cell? ⟨(ad379.add (((rd l0 (ji18))).toNat * 3)).block, (ad379.add (((rd l0 (ji18))).toNat * 3)).off + 2, none⟩ = some (.int .i8 ((rd_T64 l2 (rd l0 (ji18))).f2))) (ds := []) #[false, false, false, false, false, false, false, false, false, false, false, false, false, false, false, false] (by kernel_rfl) rfl rfl ⟨(blk_cell (impl_LongestNest_1.IsN.cL HI1.out) 0).trans rfl, (blk_cell BK380.out 0).trans rfl, (blk_cell BK380.out 1).trans rfl, (blk_cell BK380.out 2).trans rfl, (keep_cell HK.out hw381_0 hne381_0), hx382_0, hx382_1, hx382_2⟩ (fun hHeld => ?_); refine with_tabW impl_LongestNest_1.tab5 impl_LongestNest_1.bits5 (fun HT_ HW_ => ?_)
              generalize w24.drew = w25 at BK380 HI1 HK HB hx381_0 hx382_0 hx382_1 hx382_2 hHeld ⊢
              refine pure_ (i := 0) (N := some 20) (v := ?_) (a' := ?_) #[true, false, false, false, false, false, false, false, false, false, false, false, false, false, false, false] rfl rfl (any_of HT_.out (by kernel_rfl)) (fun _ _ _ h => h) (Or.inl ⟨by rfl, ?_⟩) ?_ ?_
              rotate_left
              · intro w'
                go_simp
                with_reducible rfl
              rotate_left
              · simp only [Act.put, List.setIfInBounds_toArray, List.set_cons_zero, List.set_cons_succ, i64_w, i32_w]
                rfl
              refine pure_ (i := 1) (N := some 21) (v := ?_) (a' := ?_) #[true, true, false, false, false, false, false, false, false, false, false, false, false, false, false, false] rfl rfl (any_of HT_.out (by kernel_rfl)) (fun _ _ _ h => h) (Or.inl ⟨by rfl, ?_⟩) ?_ ?_
              rotate_left
              · intro w'
                go_simp
                with_reducible rfl
              rotate_left
              · simp only [Act.put, List.setIfInBounds_toArray, List.set_cons_zero, List.set_cons_succ, i64_w, i32_w]
                rfl
              refine pure_ (i := 2) (N := some 22) (v := ?_) (a' := ?_) #[true, true, true, false, false, false, false, false, false, false, false, false, false, false, false, false] rfl rfl (any_of HT_.out (by kernel_rfl)) (fun _ _ _ h => h) (Or.inl ⟨by rfl, ?_⟩) ?_ ?_
              rotate_left
              · intro w'
                go_simp
                with_reducible rfl
              rotate_left
              · simp only [Act.put, List.setIfInBounds_toArray, List.set_cons_zero, List.set_cons_succ, i64_w, i32_w]
                rfl
              refine pure_ (i := 3) (N := some 23) (v := ?_) (a' := ?_) #[true, true, true, true, false, false, false, false, false, false, false, false, false, false, false, false] rfl rfl (any_of HT_.out (by kernel_rfl)) (fun _ _ _ h => h) (Or.inl ⟨by rfl, ?_⟩) ?_ ?_
              rotate_left
              · intro w'
                go_simp
                with_reducible rfl
              rotate_left
              · simp only [Act.put, List.setIfInBounds_toArray, List.set_cons_zero, List.set_cons_succ, i64_w, i32_w]
                rfl
              refine take_ (i := 4) (N := some 24) (v := ?_) (a' := ?_) #[true, true, true, true, true, false, false, false, false, false, false, false, false, false, false, false] rfl rfl (take_ofW HT_.out HW_.out (by kernel_rfl)) (fun _ _ _ h => h) (Or.inl ⟨by rfl, ?_⟩) hHeld ?_ ?_
              rotate_left
              · rintro w' ⟨sL, _⟩
                go_simp
                with_reducible rfl
              rotate_left
              · simp only [Act.put, List.setIfInBounds_toArray, List.set_cons_zero, List.set_cons_succ, i64_w, i32_w]
                rfl
              refine pure_ (i := 5) (N := some 25) (v := ?_) (a' := ?_) #[true, true, true, true, true, true, false, false, false, false, false, false, false, false, false, false] rfl rfl (any_of HT_.out (by kernel_rfl)) (fun _ _ _ h => h) (Or.inl ⟨by rfl, ?_⟩) ?_ ?_
              rotate_left
              · intro w'
                go_simp
                with_reducible rfl
              rotate_left
              · simp only [Act.put, List.setIfInBounds_toArray, List.set_cons_zero, List.set_cons_succ, i64_w, i32_w]
                rfl
              refine pure_ (i := 6) (N := some 26) (v := ?_) (a' := ?_) #[true, true, true, true, true, true, true, false, false, false, false, false, false, false, false, false] rfl rfl (any_of HT_.out (by kernel_rfl)) (fun _ _ _ h => h) (Or.inl ⟨by rfl, ?_⟩) ?_ ?_
              rotate_left
              · intro w'
                go_simp
                with_reducible rfl
              rotate_left
              · simp only [Act.put, List.setIfInBounds_toArray, List.set_cons_zero, List.set_cons_succ, i64_w, i32_w]
                rfl
              refine pure_ (i := 7) (N := some 27) (v := ?_) (a' := ?_) #[true, true, true, true, true, true, true, true, false, false, false, false, false, false, false, false] rfl rfl (any_of HT_.out (by kernel_rfl)) (fun _ _ _ h => h) (Or.inl ⟨by rfl, ?_⟩) ?_ ?_
              rotate_left
              · intro w'
                go_simp
                with_reducible rfl
              rotate_left
              · simp only [Act.put, List.setIfInBounds_toArray, List.set_cons_zero, List.set_cons_succ, i64_w, i32_w]
                rfl
              refine pure_ (i := 8) (N := some 28) (v := ?_) (a' := ?_) #[true, true, true, true, true, true, true, true, true, false, false, false, false, false, false, false] rfl rfl (any_of HT_.out (by kernel_rfl)) (fun _ _ _ h => h) (Or.inl ⟨by rfl, ?_⟩) ?_ ?_
              rotate_left
              · intro w'
                go_simp
                with_reducible rfl
              rotate_left
              · simp only [Act.put, List.setIfInBounds_toArray, List.set_cons_zero, List.set_cons_succ, i64_w, i32_w]
                rfl
              refine pure_ (i := 9) (N := some 29) (v := ?_) (a' := ?_) #[true, true, true, true, true, true, true, true, true, true, false, false, false, false, false, false] rfl rfl (any_of HT_.out (by kernel_rfl)) (fun _ _ _ h => h) (Or.inl ⟨by rfl, ?_⟩) ?_ ?_
              rotate_left
              · intro w'
                go_simp
                with_reducible rfl
              rotate_left
              · simp only [Act.put, List.setIfInBounds_toArray, List.set_cons_zero, List.set_cons_succ, i64_w, i32_w]
                rfl
              refine take_ (i := 10) (N := some 30) (v := ?_) (a' := ?_) #[true, true, true, true, true, true, true, true, true, true, true, false, false, false, false, false] rfl rfl (take_ofW HT_.out HW_.out (by kernel_rfl)) (fun _ _ _ h => h) (Or.inl ⟨by rfl, ?_⟩) hHeld ?_ ?_
              rotate_left
              · rintro w' ⟨sL, s0, s1, s2, s3, s4, s5, s6⟩
                go_simp
                with_reducible rfl
              rotate_left
              · simp only [Act.put, List.setIfInBounds_toArray, List.set_cons_zero, List.set_cons_succ, i64_w, i32_w]
                rfl
              refine pure_ (i := 11) (N := some 31) (v := ?_) (a' := ?_) #[true, true, true, true, true, true, true, true, true, true, true, true, false, false, false, false] rfl rfl (any_of HT_.out (by kernel_rfl)) (fun _ _ _ h => h) (Or.inl ⟨by rfl, ?_⟩) ?_ ?_
              rotate_left
              · intro w'
                go_simp
                with_reducible rfl
              rotate_left
              · simp only [Act.put, List.setIfInBounds_toArray, List.set_cons_zero, List.set_cons_succ, i64_w, i32_w]
                rfl
              refine take_ (i := 12) (N := some 32) (v := ?_) (a' := ?_) #[true, true, true, true, true, true, true, true, true, true, true, true, true, false, false, false] rfl rfl (take_ofW HT_.out HW_.out (by kernel_rfl)) (fun _ _ _ h => h) (Or.inl ⟨by rfl, ?_⟩) hHeld ?_ ?_
              rotate_left
              · rintro w' ⟨sL, s0, s1, s2, s3, s4, s5, s6⟩
                go_simp
                with_reducible rfl
              rotate_left
              · simp only [Act.put, List.setIfInBounds_toArray, List.set_cons_zero, List.set_cons_succ, i64_w, i32_w]
                rfl
              refine take_ (i := 13) (N := some 33) (v := ?_) (a' := ?_) #[true, true, true, true, true, true, true, true, true, true, true, true, true, true, false, false] rfl rfl (take_ofW HT_.out HW_.out (by kernel_rfl)) (fun _ _ _ h => h) (Or.inl ⟨by rfl, ?_⟩) hHeld ?_ ?_
              rotate_left
              · rintro w' ⟨sL, s0, s1, s2, s3, s4, s5, s6⟩
                go_simp
                with_reducible rfl
              rotate_left
              · simp only [Act.put, List.setIfInBounds_toArray, List.set_cons_zero, List.set_cons_succ, i64_w, i32_w]
                rfl
              refine one_ (i := 14) (N := some 34) #[true, true, true, true, true, true, true, true, true, true, true, true, true, true, true, false] rfl rfl (one_of HT_.out (by kernel_rfl)) (by decide) (fun K hK => ?_)
              refine goes_ Try.func42 (by kernel_rfl) rfl #[.agg #[.int .i8 ((rd_T64 l2 (rd l0 (ji18))).f0), .int .i8 ((rd_T64 l2 (rd l0 (ji18))).f1), .int .i8 ((rd_T64 l2 (rd l0 (ji18))).f2)], .agg #[.int .i8 ((rd_T64 l2 x15_2).f0), .int .i8 ((rd_T64 l2 x15_2).f1), .int .i8 ((rd_T64 l2 x15_2).f2)]] (by rfl) rfl rfl (by (try simp only [List.map_toArray, List.map_cons, List.map_nil]); first | done | (simp only [hji18]; rfl) | rfl | (simp only [List.length_drop, List.length_take]; rfl)) ?_
              with_reducible refine (impl_Box_inside.calls k2 ((rd_T64 l2 (rd l0 (ji18))).f0) ((rd_T64 l2 (rd l0 (ji18))).f1) ((rd_T64 l2 (rd l0 (ji18))).f2) ((rd_T64 l2 x15_2).f0) ((rd_T64 l2 x15_2).f1) ((rd_T64 l2 x15_2).f2) t383 _ A23.out).mono ?_
              rintro e w26 ⟨rfl, hb⟩
              have HS4_ := (hb.cell (World.block_lt_of_cell? _ _ (hHeld.2.2.2.2.2.1))).trans (hHeld.2.2.2.2.2.1)
              have HS5_ := (hb.cell (World.block_lt_of_cell? _ _ (hHeld.2.2.2.2.2.2.1))).trans (hHeld.2.2.2.2.2.2.1)
              have HS6_ := (hb.cell (World.block_lt_of_cell? _ _ (hHeld.2.2.2.2.2.2.2))).trans (hHeld.2.2.2.2.2.2.2)
              refine ⟨_, rfl, ?_⟩
              have n0_ := Aside0.mk (impl_LongestNest_1.IsN.below (by repeat (first | (with_reducible first | exact HI1.out | apply impl_LongestNest_1.IsN.alloc | apply impl_LongestNest_1.IsN.drewN | apply impl_LongestNest_1.IsN.drew | refine impl_LongestNest_1.IsN.far ?_ GN380.out _) | exact HI1.out)) hb)
              have n1_ := Aside0.mk (blk_below (g := gb380) (o := .cells #[.int .i8 ((rd_T64 l2 x15_2).f0), .int .i8 ((rd_T64 l2 x15_2).f1), .int .i8 ((rd_T64 l2 x15_2).f2)] 64 (0, 0)) (by (with_reducible repeat (first | refine blk_drewN ?_ _ | refine blk_drew ?_ | refine blk_alloc ?_ _)); exact BK380.out) hb)
              have n2_ := Aside0.mk (KeepBut.trans (by repeat (first | (with_reducible first | exact HK.out | apply KeepBut.set_ | apply keep_drewN | apply keep_drew | apply keep_alloc | refine keep_far ?_ GW380.out _) | exact HK.out)) (KeepBut.of_below hb g none) (.inl rfl))
              have n3_ := Aside0.mk (below_step (by repeat (first | (with_reducible first | exact HB.out | apply below_alloc | apply pw_below_drewN | apply below_drew1 | refine below_set ?_ (impl_LongestNest_1.IsN.ge HI1.out) | refine below_set ?_ GE380.out) | exact HB.out)) hb)
              clear HI1
              clear BK380
              clear HK
              clear HB
              have HI1 := n0_
              have BK380 := n1_
              have HK := n2_
              have HB := n3_
              clear n0_ n1_ n2_ n3_
              (try clear hb)
              (try clear hb2)
              (try clear hk)
              (try clear hi)
              refine hK.out _ _ ⟨(blk_cell (impl_LongestNest_1.IsN.cL HI1.out) 0).trans rfl, (blk_cell BK380.out 0).trans rfl, (blk_cell BK380.out 1).trans rfl, (blk_cell BK380.out 2).trans rfl, (keep_cell HK.out hw381_0 hne381_0), HS4_, HS5_, HS6_⟩ (fun hHeld => ?_)
              clear hK K
              refine norm_ (a' := ?_) ?_ ?_
              rotate_left
              · show Act.put _ (some 34) _ = _
                simp only [Act.put, List.setIfInBounds_toArray, List.set_cons_zero, List.set_cons_succ, i64_w, i32_w]
                rfl
              refine pure_ (i := 15) (N := some 35) (v := ?_) (a' := ?_) #[true, true, true, true, true, true, true, true, true, true, true, true, true, true, true, true] rfl rfl (any_of HT_.out (by kernel_rfl)) (fun _ _ _ h => h) (Or.inl ⟨by rfl, ?_⟩) ?_ ?_
              rotate_left
              · intro w'
                go_simp
                with_reducible rfl
              rotate_left
              · simp only [Act.put, List.setIfInBounds_toArray, List.set_cons_zero, List.set_cons_succ, i64_w, i32_w]
                rfl
              refine done_ (done_of HT_.out (by kernel_rfl)) ?_
              try go_wp2
              go_meet
              case rel => exact ⟨_, (t383), (by first | rfl | (simp; done) | (simp [*]; done)), H', ⟨by have := HJ3.out; have := HK2.out; first | omega | exact Nat.le_refl _⟩, ⟨by (with_reducible repeat (first | refine blk_drewN ?_ _ | refine blk_drew ?_ | refine blk_alloc ?_ _)); exact BK380.out⟩, ⟨by repeat (first | (with_reducible first | exact HI1.out | apply impl_LongestNest_1.IsN.alloc | apply impl_LongestNest_1.IsN.drewN | apply impl_LongestNest_1.IsN.drew | refine impl_LongestNest_1.IsN.far ?_ GN380.out _) | exact HI1.out)⟩, ⟨by repeat (first | (with_reducible first | exact HK.out | apply KeepBut.set_ | apply keep_drewN | apply keep_drew | apply keep_alloc | refine keep_far ?_ GW380.out _) | exact HK.out)⟩, ⟨by repeat (first | (with_reducible first | exact HB.out | apply below_alloc | apply pw_below_drewN | apply below_drew1 | refine below_set ?_ (impl_LongestNest_1.IsN.ge HI1.out) | refine below_set ?_ GE380.out) | exact HB.out)⟩⟩
            rw [if_pos c15] at H
            have c15b0 : ((l0.length : Int) == 0) = true := beq_iff_eq.mpr c15
            have c15b1 : ((l0.length : Int) != 0) = false := bne_eq_false_iff_eq.mpr c15
            clear c15
            (first | rw [c15b0] | (simp only [i64_w, i32_w]; rw [c15b0]) | skip)
            have H' := Aside0.mk H
            clear H
            try go_wp2
            have n0_ : Aside0 ((((w12.setCell ⟨gb380, 0, none⟩ (.int .i8 ((rd_T64 l2 x15_2).f0))).setCell ⟨gb380, 1, none⟩ (.int .i8 ((rd_T64 l2 x15_2).f1))).setCell ⟨gb380, 2, none⟩ (.int .i8 ((rd_T64 l2 x15_2).f2))).heap[gb380]? = some (.cells #[.int .i8 ((rd_T64 l2 x15_2).f0), .int .i8 ((rd_T64 l2 x15_2).f1), .int .i8 ((rd_T64 l2 x15_2).f2)] 64 (0, 0))) := ⟨by (with_reducible repeat (first | refine blk_drewN ?_ _ | refine blk_drew ?_ | refine blk_alloc ?_ _)); refine blk_put (cs := #[.int .i8 ((rd_T64 l2 x15_2).f0), .int .i8 ((rd_T64 l2 x15_2).f1), .int .i8 0]) ?_ 2 _ rfl; (with_reducible repeat (first | refine blk_drewN ?_ _ | refine blk_drew ?_ | refine blk_alloc ?_ _)); refine blk_put (cs := #[.int .i8 ((rd_T64 l2 x15_2).f0), .int .i8 0, .int .i8 0]) ?_ 1 _ rfl; (with_reducible repeat (first | refine blk_drewN ?_ _ | refine blk_drew ?_ | refine blk_alloc ?_ _)); refine blk_put (cs := #[.int .i8 0, .int .i8 0, .int .i8 0]) ?_ 0 _ rfl; (with_reducible repeat (first | refine blk_drewN ?_ _ | refine blk_drew ?_ | refine blk_alloc ?_ _)); exact BK380.out⟩
            have n1_ : Aside0 (impl_LongestNest_1.IsN w0 (((w12.setCell ⟨gb380, 0, none⟩ (.int .i8 ((rd_T64 l2 x15_2).f0))).setCell ⟨gb380, 1, none⟩ (.int .i8 ((rd_T64 l2 x15_2).f1))).setCell ⟨gb380, 2, none⟩ (.int .i8 ((rd_T64 l2 x15_2).f2))) g L C (some ad379) c2 l2 x2003_2 N) := ⟨by repeat (first | (with_reducible first | exact HI1.out | apply impl_LongestNest_1.IsN.alloc | apply impl_LongestNest_1.IsN.drewN | apply impl_LongestNest_1.IsN.drew | refine impl_LongestNest_1.IsN.far ?_ GN380.out _) | exact HI1.out)⟩
            have n2_ : Aside0 (KeepBut w (((w12.setCell ⟨gb380, 0, none⟩ (.int .i8 ((rd_T64 l2 x15_2).f0))).setCell ⟨gb380, 1, none⟩ (.int .i8 ((rd_T64 l2 x15_2).f1))).setCell ⟨gb380, 2, none⟩ (.int .i8 ((rd_T64 l2 x15_2).f2))) g none) := ⟨by repeat (first | (with_reducible first | exact HK.out | apply KeepBut.set_ | apply keep_drewN | apply keep_drew | apply keep_alloc | refine keep_far ?_ GW380.out _) | exact HK.out)⟩
            have n3_ : Aside0 (Below w0.heap.size w0 (((w12.setCell ⟨gb380, 0, none⟩ (.int .i8 ((rd_T64 l2 x15_2).f0))).setCell ⟨gb380, 1, none⟩ (.int .i8 ((rd_T64 l2 x15_2).f1))).setCell ⟨gb380, 2, none⟩ (.int .i8 ((rd_T64 l2 x15_2).f2)))) := ⟨by repeat (first | (with_reducible first | exact HB.out | apply below_alloc | apply pw_below_drewN | apply below_drew1 | refine below_set ?_ (impl_LongestNest_1.IsN.ge HI1.out) | refine below_set ?_ GE380.out) | exact HB.out)⟩
            (try clear BK380)
            (try clear HI1)
            (try clear HK)
            (try clear HB)
            generalize (((w12.setCell ⟨gb380, 0, none⟩ (.int .i8 ((rd_T64 l2 x15_2).f0))).setCell ⟨gb380, 1, none⟩ (.int .i8 ((rd_T64 l2 x15_2).f1))).setCell ⟨gb380, 2, none⟩ (.int .i8 ((rd_T64 l2 x15_2).f2))) = w16 at n0_ n1_ n2_ n3_ ⊢
            have BK380 := n0_
            have HI1 := n1_
            have HK := n2_
            have HB := n3_
            clear n0_ n1_ n2_ n3_
            have n0_ := Aside0.mk (blk_drew BK380.out)
            have n1_ := Aside0.mk (impl_LongestNest_1.IsN.drew HI1.out)
            have n2_ := Aside0.mk (keep_drew HK.out)
            have n3_ := Aside0.mk (below_drew1 HB.out)
            clear BK380
            clear HI1
            clear HK
            clear HB
            have BK380 := n0_
            have HI1 := n1_
            have HK := n2_
            have HB := n3_
            clear n0_ n1_ n2_ n3_
            refine start_ (n := 16) (S := fun w' => True) (ds := []) #[false, false, false, false, false, false, false, false, false, false, false, false, false, false, false, false] (by kernel_rfl) rfl rfl trivial (fun hHeld => ?_); refine with_tabW impl_LongestNest_1.tab5 impl_LongestNest_1.bits5 (fun HT_ HW_ => ?_)
            generalize w16.drew = w17 at BK380 HI1 HK HB hHeld ⊢
            refine pure_ (i := 0) (N := some 20) (v := ?_) (a' := ?_) #[true, false, false, false, false, false, false, false, false, false, false, false, false, false, false, false] rfl rfl (any_of HT_.out (by kernel_rfl)) (fun _ _ _ h => h) (Or.inl ⟨by rfl, ?_⟩) ?_ ?_
            rotate_left
            · intro w'
              go_simp
              with_reducible rfl
            rotate_left
            · simp only [Act.put, List.setIfInBounds_toArray, List.set_cons_zero, List.set_cons_succ, i64_w, i32_w]
              rfl
            refine pure_ (i := 1) (N := some 21) (v := ?_) (a' := ?_) #[true, true, false, false, false, false, false, false, false, false, false, false, false, false, false, false] rfl rfl (any_of HT_.out (by kernel_rfl)) (fun _ _ _ h => h) (Or.inl ⟨by rfl, ?_⟩) ?_ ?_
            rotate_left
            · intro w'
              go_simp
              with_reducible rfl
            rotate_left
            · simp only [Act.put, List.setIfInBounds_toArray, List.set_cons_zero, List.set_cons_succ, i64_w, i32_w]
              rfl
            refine pure_ (i := 2) (N := some 22) (v := ?_) (a' := ?_) #[true, true, true, false, false, false, false, false, false, false, false, false, false, false, false, false] rfl rfl (any_of HT_.out (by kernel_rfl)) (fun _ _ _ h => h) (Or.inl ⟨by rfl, ?_⟩) ?_ ?_
            rotate_left
            · intro w'
              go_simp
              with_reducible rfl
            rotate_left
            · simp only [Act.put, List.setIfInBounds_toArray, List.set_cons_zero, List.set_cons_succ, i64_w, i32_w]
              rfl
            refine pure_ (i := 3) (N := some 23) (v := ?_) (a' := ?_) #[true, true, true, true, false, false, false, false, false, false, false, false, false, false, false, false] rfl rfl (any_of HT_.out (by kernel_rfl)) (fun _ _ _ h => h) (Or.inl ⟨by rfl, ?_⟩) ?_ ?_
            rotate_left
            · intro w'
              go_simp
              with_reducible rfl
            rotate_left
            · simp only [Act.put, List.setIfInBounds_toArray, List.set_cons_zero, List.set_cons_succ, i64_w, i32_w]
              rfl
            refine pure_ (i := 4) (N := some 24) (v := undef) (a' := ?_) #[true, true, true, true, true, false, false, false, false, false, false, false, false, false, false, false] rfl rfl (any_of HT_.out (by kernel_rfl)) (fun _ _ _ h => h) (Or.inr ⟨by rfl, rfl⟩) ?_ ?_
            rotate_left
            · simp only [Act.put, List.setIfInBounds_toArray, List.set_cons_zero, List.set_cons_succ, i64_w, i32_w]
              rfl
            refine pure_ (i := 5) (N := some 25) (v := undef) (a' := ?_) #[true, true, true, true, true, true, false, false, false, false, false, false, false, false, false, false] rfl rfl (any_of HT_.out (by kernel_rfl)) (fun _ _ _ h => h) (Or.inr ⟨by rfl, rfl⟩) ?_ ?_
            rotate_left
            · simp only [Act.put, List.setIfInBounds_toArray, List.set_cons_zero, List.set_cons_succ, i64_w, i32_w]
              rfl
            refine pure_ (i := 6) (N := some 26) (v := undef) (a' := ?_) #[true, true, true, true, true, true, true, false, false, false, false, false, false, false, false, false] rfl rfl (any_of HT_.out (by kernel_rfl)) (fun _ _ _ h => h) (Or.inr ⟨by rfl, rfl⟩) ?_ ?_
            rotate_left
            · simp only [Act.put, List.setIfInBounds_toArray, List.set_cons_zero, List.set_cons_succ, i64_w, i32_w]
              rfl
            refine pure_ (i := 7) (N := some 27) (v := undef) (a' := ?_) #[true, true, true, true, true, true, true, true, false, false, false, false, false, false, false, false] rfl rfl (any_of HT_.out (by kernel_rfl)) (fun _ _ _ h => h) (Or.inr ⟨by rfl, rfl⟩) ?_ ?_
            rotate_left
            · simp only [Act.put, List.setIfInBounds_toArray, List.set_cons_zero, List.set_cons_succ, i64_w, i32_w]
              rfl
            refine pure_ (i := 8) (N := some 28) (v := undef) (a' := ?_) #[true, true, true, true, true, true, true, true, true, false, false, false, false, false, false, false] rfl rfl (any_of HT_.out (by kernel_rfl)) (fun _ _ _ h => h) (Or.inr ⟨by rfl, rfl⟩) ?_ ?_
            rotate_left
            · simp only [Act.put, List.setIfInBounds_toArray, List.set_cons_zero, List.set_cons_succ, i64_w, i32_w]
              rfl
            refine pure_ (i := 9) (N := some 29) (v := undef) (a' := ?_) #[true, true, true, true, true, true, true, true, true, true, false, false, false, false, false, false] rfl rfl (any_of HT_.out (by kernel_rfl)) (fun _ _ _ h => h) (Or.inr ⟨by rfl, rfl⟩) ?_ ?_
            rotate_left
            · simp only [Act.put, List.setIfInBounds_toArray, List.set_cons_zero, List.set_cons_succ, i64_w, i32_w]
              rfl
            refine pure_ (i := 10) (N := some 30) (v := undef) (a' := ?_) #[true, true, true, true, true, true, true, true, true, true, true, false, false, false, false, false] rfl rfl (any_of HT_.out (by kernel_rfl)) (fun _ _ _ h => h) (Or.inr ⟨by rfl, rfl⟩) ?_ ?_
            rotate_left
            · simp only [Act.put, List.setIfInBounds_toArray, List.set_cons_zero, List.set_cons_succ, i64_w, i32_w]
              rfl
            refine pure_ (i := 11) (N := some 31) (v := undef) (a' := ?_) #[true, true, true, true, true, true, true, true, true, true, true, true, false, false, false, false] rfl rfl (any_of HT_.out (by kernel_rfl)) (fun _ _ _ h => h) (Or.inr ⟨by rfl, rfl⟩) ?_ ?_
            rotate_left
            · simp only [Act.put, List.setIfInBounds_toArray, List.set_cons_zero, List.set_cons_succ, i64_w, i32_w]
              rfl
            refine pure_ (i := 12) (N := some 32) (v := undef) (a' := ?_) #[true, true, true, true, true, true, true, true, true, true, true, true, true, false, false, false] rfl rfl (any_of HT_.out (by kernel_rfl)) (fun _ _ _ h => h) (Or.inr ⟨by rfl, rfl⟩) ?_ ?_
            rotate_left
            · simp only [Act.put, List.setIfInBounds_toArray, List.set_cons_zero, List.set_cons_succ, i64_w, i32_w]
              rfl
            refine pure_ (i := 13) (N := some 33) (v := undef) (a' := ?_) #[true, true, true, true, true, true, true, true, true, true, true, true, true, true, false, false] rfl rfl (any_of HT_.out (by kernel_rfl)) (fun _ _ _ h => h) (Or.inr ⟨by rfl, rfl⟩) ?_ ?_
            rotate_left
            · simp only [Act.put, List.setIfInBounds_toArray, List.set_cons_zero, List.set_cons_succ, i64_w, i32_w]
              rfl
            refine pure_ (i := 14) (N := some 34) (v := undef) (a' := ?_) #[true, true, true, true, true, true, true, true, true, true, true, true, true, true, true, false] rfl rfl (any_of HT_.out (by kernel_rfl)) (fun _ _ _ h => h) (Or.inr ⟨by rfl, rfl⟩) ?_ ?_
            rotate_left
            · simp only [Act.put, List.setIfInBounds_toArray, List.set_cons_zero, List.set_cons_succ, i64_w, i32_w]
              rfl
            refine pure_ (i := 15) (N := some 35) (v := ?_) (a' := ?_) #[true, true, true, true, true, true, true, true, true, true, true, true, true, true, true, true] rfl rfl (any_of HT_.out (by kernel_rfl)) (fun _ _ _ h => h) (Or.inl ⟨by rfl, ?_⟩) ?_ ?_
            rotate_left
            · intro w'
              go_simp
              with_reducible rfl
            rotate_left
            · simp only [Act.put, List.setIfInBounds_toArray, List.set_cons_zero, List.set_cons_succ, i64_w, i32_w]
              rfl
            refine done_ (done_of HT_.out (by kernel_rfl)) ?_
            try go_wp2
            go_meet
            case rel => exact ⟨_, (true), (by first | rfl | (simp; done) | (simp [*]; done)), H', ⟨by have := HJ3.out; have := HK2.out; first | omega | exact Nat.le_refl _⟩, ⟨by (with_reducible repeat (first | refine blk_drewN ?_ _ | refine blk_drew ?_ | refine blk_alloc ?_ _)); exact BK380.out⟩, ⟨by repeat (first | (with_reducible first | exact HI1.out | apply impl_LongestNest_1.IsN.alloc | apply impl_LongestNest_1.IsN.drewN | apply impl_LongestNest_1.IsN.drew | refine impl_LongestNest_1.IsN.far ?_ GN380.out _) | exact HI1.out)⟩, ⟨by repeat (first | (with_reducible first | exact HK.out | apply KeepBut.set_ | apply keep_drewN | apply keep_drew | apply keep_alloc | refine keep_far ?_ GW380.out _) | exact HK.out)⟩, ⟨by repeat (first | (with_reducible first | exact HB.out | apply below_alloc | apply pw_below_drewN | apply below_drew1 | refine below_set ?_ (impl_LongestNest_1.IsN.ge HI1.out) | refine below_set ?_ GE380.out) | exact HB.out)⟩⟩
          case rest =>
            clear HC11
            try clear c1
            try clear c2
            try clear p2
            try clear p3
            try clear q3
            try clear hx3
            try clear c4
            try clear c6
            try clear c6b0
            try clear p6
            try clear c8
            try clear c8b0
            try clear c9
            try clear c9b0
            try clear c10
            try clear c10b0
            try clear c13
            try clear c15
            try clear c15b0
            try clear c15b1
            try clear c15b2
            try clear c19
            try clear c19b0
            try clear c20
            try clear c20b0
            try clear c21
            try clear c21b0
            try clear c22
            try clear c22b0
            try clear hcz14_0
            try clear hcz14_1
            try clear hcz14_2
            try clear hcz5_0
            try clear hcz5_1
            try clear hcz5_2
            try clear hcz5_3
            try clear hcz5_4
            try clear hcz7_0
            try clear hcz7_1
            try clear hcz7_2
            try clear hcz7_3
            try clear hcz7_4
            try clear hfz14_0
            try clear hfz14_1
            try clear hfz14_2
            try clear hfz5_1
            try clear hfz5_2
            try clear hfz5_3
            try clear hfz5_4
            try clear hfz7_1
            try clear hfz7_2
            try clear hfz7_3
            try clear hfz7_4
            try clear hx379_0
            try clear hx379_1
            try clear hx379_2
            try clear hx381_0
            try clear hx382_0
            try clear hx382_1
            try clear hx382_2
            try clear p2
            try clear p379
            try clear p381
            try clear p382
            try clear q379
            try clear q381
            try clear q382
            obtain ⟨kq, x35_10, rfl, HA, HJ10, BK380, HI1, HK, HB⟩ := hcut
            cases kq with
            | zero => exact absurd HA.out (by simp [impl_LongestNest_1.j2])
            | succ kj10 =>
              have H := HA.out
              clear HA
              simp only [impl_LongestNest_1.j2] at H
              by_cases c27 : x35_10 = true
              rotate_left
              · replace c27 := Bool.eq_false_iff.mpr c27
                subst c27
                have H1 : (impl_LongestNest_1.l0 kj10 l0 l2 l2 (l2.length : Int) (wrap64 (x15_2 + 1)) x2003_2) = some r := by rw [if_neg (show ¬ (false = true) by decide)] at H; exact H
                clear H
                have H := H1
                clear H1
                have H' := Aside0.mk H
                clear H
                go_wp2
                go_roundg kj10
                case measure => have := HJ3.out; have := HK2.out; have := HJ10.out; omega
                case rel => exact ⟨(wrap64 (x15_2 + 1)), (x2003_2), _, (by first | rfl | (simp; done) | (simp [*]; done)), H', ⟨by have := HJ3.out; have := HK2.out; have := HJ10.out; omega⟩, ⟨impl_LongestNest_1.IsN.up (show impl_LongestNest_1.IsN w0 _ g L C (some ad379) c2 l2 x2003_2 N from by repeat (first | (with_reducible first | exact HI1.out | apply impl_LongestNest_1.IsN.alloc | apply impl_LongestNest_1.IsN.drewN | apply impl_LongestNest_1.IsN.drew | refine impl_LongestNest_1.IsN.far ?_ GN380.out _) | exact HI1.out))⟩, ⟨keep_size (w := w) (g := g) (row := none) (by repeat (first | (with_reducible first | exact HK.out | apply KeepBut.set_ | apply keep_drewN | apply keep_drew | apply keep_alloc | refine keep_far ?_ GW380.out _) | exact HK.out))⟩, ⟨by repeat (first | (with_reducible first | exact HK.out | apply KeepBut.set_ | apply keep_drewN | apply keep_drew | apply keep_alloc | refine keep_far ?_ GW380.out _) | exact HK.out)⟩, ⟨by repeat (first | (with_reducible first | exact HB.out | apply below_alloc | apply pw_below_drewN | apply below_drew1 | refine below_set ?_ (impl_LongestNest_1.IsN.ge HI1.out) | refine below_set ?_ GE380.out) | exact HB.out)⟩⟩
              subst c27
              have H1 : ((slices_Clone_int64_int64.f l0).bind fun t384 => ((some (([x15_2] : List Int) : List Int)).bind fun y387 => (if t384.length + y387.length < 17592186044416 then ((impl_LongestNest_1.f kj10 (t384 ++ y387) x2003_2 l2).bind fun bt393 => (impl_LongestNest_1.l0 kj10 l0 l2 l2 (l2.length : Int) (wrap64 (x15_2 + 1)) bt393)) else (none)))) = some r := by rw [if_pos rfl] at H; exact H
              clear H
              have H := H1
              clear H1
              replace H := Option.bind_eq_some_iff.mp H
              obtain ⟨t384, A280, H⟩ := H
              replace H : ((some (([x15_2] : List Int) : List Int)).bind fun y387 => (if t384.length + y387.length < 17592186044416 then ((impl_LongestNest_1.f kj10 (t384 ++ y387) x2003_2 l2).bind fun bt393 => (impl_LongestNest_1.l0 kj10 l0 l2 l2 (l2.length : Int) (wrap64 (x15_2 + 1)) bt393)) else (none))) = some r := H
              have A28 := Aside0.mk A280
              clear A280
              obtain ⟨y387, hy387⟩ : ∃ y_ : List Int, y_ = (([x15_2] : List Int)) := ⟨_, rfl⟩
              replace H : (if t384.length + y387.length < 17592186044416 then ((impl_LongestNest_1.f kj10 (t384 ++ y387) x2003_2 l2).bind fun bt393 => (impl_LongestNest_1.l0 kj10 l0 l2 l2 (l2.length : Int) (wrap64 (x15_2 + 1)) bt393)) else (none)) = some r := by first | (rw [hy387]; with_reducible exact H) | (have H2_ := (Option.bind_some _ _).symm.trans H; rw [hy387]; with_reducible exact H2_) | (have H2_ := (Option.bind_some _ _).symm.trans H; with_reducible exact H2_) | with_reducible exact H | (rw [hy387]; exact H) | exact H
              have Ny387 := Aside0.mk hy387
              clear hy387
              by_cases c29 : t384.length + y387.length < 17592186044416
              rotate_left
              · rw [if_neg c29] at H
                exact absurd H (by simp)
              rw [if_pos c29] at H
              have LMc29 := Aside0.mk c29
              clear c29
              obtain ⟨y390, hy390⟩ : ∃ y_ : List Int, y_ = (t384 ++ y387) := ⟨_, rfl⟩
              replace H : ((impl_LongestNest_1.f kj10 y390 x2003_2 l2).bind fun bt393 => (impl_LongestNest_1.l0 kj10 l0 l2 l2 (l2.length : Int) (wrap64 (x15_2 + 1)) bt393)) = some r := by first | (rw [hy390]; with_reducible exact H) | (have H2_ := (Option.bind_some _ _).symm.trans H; rw [hy390]; with_reducible exact H2_) | (have H2_ := (Option.bind_some _ _).symm.trans H; with_reducible exact H2_) | with_reducible exact H | (rw [hy390]; exact H) | exact H
              have Ny390 := Aside0.mk hy390
              clear hy390
              replace H := Option.bind_eq_some_iff.mp H
              obtain ⟨t393, A300, H⟩ := H
              replace H : (impl_LongestNest_1.l0 kj10 l0 l2 l2 (l2.length : Int) (wrap64 (x15_2 + 1)) t393) = some r := H
              have A30 := Aside0.mk A300
              clear A300
              have H' := Aside0.mk H
              clear H
              try go_wp2
              have n0_ := Aside0.mk (blk_drew BK380.out)
              have n1_ := Aside0.mk (impl_LongestNest_1.IsN.drew HI1.out)
              have n2_ := Aside0.mk (keep_drew HK.out)
              have n3_ := Aside0.mk (below_drew1 HB.out)
              clear BK380
              clear HI1
              clear HK
              clear HB
              have BK380 := n0_
              have HI1 := n1_
              have HK := n2_
              have HB := n3_
              clear n0_ n1_ n2_ n3_
              refine start_ (n := 7) (S := fun w' => w'.cell? ⟨C, 0, none⟩ = some (.func (.func 41) #[] #[.pointer (some ⟨g, 0, none⟩), .pointer (some ⟨L, 0, none⟩), .pointer (some ⟨C, 0, none⟩)])) (ds := []) #[false, false, false, false, false, false, false] (by kernel_rfl) rfl rfl ((blk_cell (impl_LongestNest_1.IsN.cC HI1.out) 0).trans rfl) (fun hHeld => ?_)
              generalize wc.drew = w31 at BK380 HI1 HK HB hHeld ⊢
              refine take_ (i := 0) (N := some 36) (v := ?_) (a' := ?_) #[true, false, false, false, false, false, false] rfl rfl (by kernel_rfl) (fun _ _ _ h => h) (Or.inl ⟨by rfl, ?_⟩) hHeld ?_ ?_
              rotate_left
              · intro w' sC
                go_simp
                with_reducible rfl
              rotate_left
              · simp only [Act.put, List.setIfInBounds_toArray, List.set_cons_zero, List.set_cons_succ, i64_w, i32_w]
                rfl
              refine pure_ (i := 1) (N := some 37) (v := ?_) (a' := ?_) #[true, true, false, false, false, false, false] rfl rfl (by kernel_rfl) (fun _ _ _ h => h) (Or.inl ⟨by rfl, ?_⟩) ?_ ?_
              rotate_left
              · intro w'
                go_simp
                with_reducible rfl
              rotate_left
              · simp only [Act.put, List.setIfInBounds_toArray, List.set_cons_zero, List.set_cons_succ, i64_w, i32_w]
                rfl
              refine pure_ (i := 3) (N := some 39) (v := ?_) (a' := ?_) #[true, true, false, true, false, false, false] rfl rfl (by kernel_rfl) (fun _ _ _ h => h) (Or.inl ⟨by rfl, ?_⟩) ?_ ?_
              rotate_left
              · intro w'
                go_simp
                with_reducible rfl
              rotate_left
              · simp only [Act.put, List.setIfInBounds_toArray, List.set_cons_zero, List.set_cons_succ, i64_w, i32_w]
                rfl
              refine join_ (σ := Value × Value) 2 #[true, true, true, true, true, false, false] (fun s_ => [(38, s_.1), (40, s_.2)]) (fun s_ w' => (Kd.R (Kd.int .i64) 2 w' N (fun k_ => some k_ ≠ (s_.2 : Value).ownBlock) s_.1 t384) ∧ (Kd.R (Kd.int .i64) 2 w' N (fun k_ => some k_ ≠ (s_.1 : Value).ownBlock) s_.2 y387) ∧ (w'.heap[gb380]? = some (.cells #[.int .i8 ((rd_T64 l2 x15_2).f0), .int .i8 ((rd_T64 l2 x15_2).f1), .int .i8 ((rd_T64 l2 x15_2).f2)] 64 (0, 0))) ∧ (impl_LongestNest_1.IsN w0 w' g L C (some ad379) c2 l2 x2003_2 N) ∧ (KeepBut w w' g none) ∧ (Below w0.heap.size w0 w')) ?_ ?_
              rotate_left
              · intro hCont
                refine two_ (i := 2) (j := 4) (Ni := some 38) (Nj := some 40) #[true, true, true, true, false, false, false] #[true, true, false, true, true, false, false] rfl rfl rfl rfl (by kernel_rfl) (by decide) (by decide) (fun K hK => ?_) (fun K hK => ?_)
                · skip
                  refine goes_ Try.func43 (by kernel_rfl) rfl #[.slice A0 l0.length c0] (by rfl) rfl rfl (by (try simp only [List.map_toArray, List.map_cons, List.map_nil]); first | done | rfl | (simp only [List.length_drop, List.length_take]; rfl)) ?_
                  with_reducible refine (slices_Clone_int64_int64.calls _ _ l0 t384 _ ?side1 ?side2 A28.out).mono ?_
                  (case side1 => exact Kd.C_keep 0 HR0.out (by repeat (first | (with_reducible first | exact HK.out | apply KeepBut.set_ | apply keep_drewN | apply keep_drew | apply keep_alloc | refine keep_far ?_ GW380.out _) | exact HK.out)) hf0)
                  (case side2 => exact HC0.out)
                  rintro e w32 ⟨v385, rfl, ho0, hb⟩
                  refine ⟨_, rfl, ?_⟩
                  have n0_ := Aside0.mk (Kd.R_lower ho0 (impl_LongestNest_1.IsN.le (show impl_LongestNest_1.IsN w0 _ g L C (some ad379) c2 l2 x2003_2 N from by repeat (first | (with_reducible first | exact HI1.out | apply impl_LongestNest_1.IsN.alloc | apply impl_LongestNest_1.IsN.drewN | apply impl_LongestNest_1.IsN.drew | refine impl_LongestNest_1.IsN.far ?_ GN380.out _) | exact HI1.out))))
                  have n1_ := Aside0.mk (blk_below (g := gb380) (o := .cells #[.int .i8 ((rd_T64 l2 x15_2).f0), .int .i8 ((rd_T64 l2 x15_2).f1), .int .i8 ((rd_T64 l2 x15_2).f2)] 64 (0, 0)) (by (with_reducible repeat (first | refine blk_drewN ?_ _ | refine blk_drew ?_ | refine blk_alloc ?_ _)); exact BK380.out) hb)
                  have n2_ := Aside0.mk (impl_LongestNest_1.IsN.below (by repeat (first | (with_reducible first | exact HI1.out | apply impl_LongestNest_1.IsN.alloc | apply impl_LongestNest_1.IsN.drewN | apply impl_LongestNest_1.IsN.drew | refine impl_LongestNest_1.IsN.far ?_ GN380.out _) | exact HI1.out)) hb)
                  have n3_ := Aside0.mk (KeepBut.trans (by repeat (first | (with_reducible first | exact HK.out | apply KeepBut.set_ | apply keep_drewN | apply keep_drew | apply keep_alloc | refine keep_far ?_ GW380.out _) | exact HK.out)) (KeepBut.of_below hb g none) (.inl rfl))
                  have n4_ := Aside0.mk (below_step (by repeat (first | (with_reducible first | exact HB.out | apply below_alloc | apply pw_below_drewN | apply below_drew1 | refine below_set ?_ (impl_LongestNest_1.IsN.ge HI1.out) | refine below_set ?_ GE380.out) | exact HB.out)) hb)
                  clear BK380
                  clear HI1
                  clear HK
                  clear HB
                  have HO386 := n0_
                  have BK380 := n1_
                  have HI1 := n2_
                  have HK := n3_
                  have HB := n4_
                  clear n0_ n1_ n2_ n3_ n4_
                  (try clear hb)
                  (try clear hb2)
                  (try clear hk)
                  (try clear hi)
                  (try clear ho0)
                  refine hK.out _ _ ((blk_cell (impl_LongestNest_1.IsN.cC HI1.out) 0).trans rfl) (fun hHeld => ?_)
                  clear hK K
                  refine norm_ (a' := ?_) ?_ ?_
                  rotate_left
                  · show Act.put _ (some 38) _ = _
                    simp only [Act.put, List.setIfInBounds_toArray, List.set_cons_zero, List.set_cons_succ, i64_w, i32_w]
                    rfl
                  refine one_ (i := 4) (N := some 40) #[true, true, true, true, true, false, false] rfl rfl (by kernel_rfl) (by decide) (fun K hK => ?_)
                  refine Kd.R_lit_step (Kd.int .i64) _ 2 ?hg (N := 40) ?hd (xs := ([x15_2] : List Int)) (inner := [.int .i64 x15_2]) (ok := fun _ => True) (okp := fun _ => True) ?hr ?hp (fun _ hk => hk) trivial (Below.refl _ _) (Nat.le_refl _) (by simp) ?_; (case hd => rfl); (case hg => rfl); (case hr => first | (go_simp; done) | (go_simp; rfl)); (case hp => exact (Reps.one (show Kd.M (Kd.int .i64) _ _ _ x15_2 [.int .i64 x15_2] from rfl) (Reps.none _ _)))
                  intro v388 w33 ho34 hb hg_ hnew_
                  clear hg_ hnew_
                  (first | rw [← Ny387.out] at ho34 | (simp only [Int.reduceToNat] at ho34; rw [← Ny387.out] at ho34))
                  have n0_ := Aside0.mk (Kd.R_elder' (by (with_reducible repeat (first | apply Kd.R_alloc | apply Kd.R_drewN | apply Kd.R_drew)); exact HO386.out) (Kd.R_base ho34) hb)
                  have n1_ := Aside0.mk (Kd.R_lower (Kd.R_new' ho34 (Kd.R_lt (by (with_reducible repeat (first | apply Kd.R_alloc | apply Kd.R_drewN | apply Kd.R_drew)); exact HO386.out))) (impl_LongestNest_1.IsN.le (show impl_LongestNest_1.IsN w0 _ g L C (some ad379) c2 l2 x2003_2 N from by repeat (first | (with_reducible first | exact HI1.out | apply impl_LongestNest_1.IsN.alloc | apply impl_LongestNest_1.IsN.drewN | apply impl_LongestNest_1.IsN.drew | refine impl_LongestNest_1.IsN.far ?_ GN380.out _) | exact HI1.out))))
                  have n2_ := Aside0.mk (blk_below (g := gb380) (o := .cells #[.int .i8 ((rd_T64 l2 x15_2).f0), .int .i8 ((rd_T64 l2 x15_2).f1), .int .i8 ((rd_T64 l2 x15_2).f2)] 64 (0, 0)) (by (with_reducible repeat (first | refine blk_drewN ?_ _ | refine blk_drew ?_ | refine blk_alloc ?_ _)); exact BK380.out) hb)
                  have n3_ := Aside0.mk (impl_LongestNest_1.IsN.below (by repeat (first | (with_reducible first | exact HI1.out | apply impl_LongestNest_1.IsN.alloc | apply impl_LongestNest_1.IsN.drewN | apply impl_LongestNest_1.IsN.drew | refine impl_LongestNest_1.IsN.far ?_ GN380.out _) | exact HI1.out)) hb)
                  have n4_ := Aside0.mk (KeepBut.trans (by repeat (first | (with_reducible first | exact HK.out | apply KeepBut.set_ | apply keep_drewN | apply keep_drew | apply keep_alloc | refine keep_far ?_ GW380.out _) | exact HK.out)) (KeepBut.of_below hb g none) (.inl rfl))
                  have n5_ := Aside0.mk (below_step (by repeat (first | (with_reducible first | exact HB.out | apply below_alloc | apply pw_below_drewN | apply below_drew1 | refine below_set ?_ (impl_LongestNest_1.IsN.ge HI1.out) | refine below_set ?_ GE380.out) | exact HB.out)) hb)
                  clear HO386
                  clear BK380
                  clear HI1
                  clear HK
                  clear HB
                  have HO386 := n0_
                  have HO389 := n1_
                  have BK380 := n2_
                  have HI1 := n3_
                  have HK := n4_
                  have HB := n5_
                  clear n0_ n1_ n2_ n3_ n4_ n5_
                  clear hb ho34
                  refine hK.out _ _ ((blk_cell (impl_LongestNest_1.IsN.cC HI1.out) 0).trans rfl) (fun hHeld => ?_)
                  clear hK K
                  refine norm_ (a' := ?_) ?_ ?_
                  rotate_left
                  · show Act.put _ (some 40) _ = _
                    simp only [Act.put, List.setIfInBounds_toArray, List.set_cons_zero, List.set_cons_succ, i64_w, i32_w]
                    rfl
                  exact norm_ (by simp only [putAll, Act.put, List.setIfInBounds_toArray, List.set_cons_zero, List.set_cons_succ]) (hCont (v385, v388) _ ⟨(by (with_reducible repeat (first | apply Kd.R_alloc | apply Kd.R_drewN | apply Kd.R_drew)); exact Kd.R_mono HO386.out (fun _ hk => hk.2)), (by (with_reducible repeat (first | apply Kd.R_alloc | apply Kd.R_drewN | apply Kd.R_drew)); exact Kd.R_mono HO389.out (fun _ hk => hk.2)), (by (with_reducible repeat (first | refine blk_drewN ?_ _ | refine blk_drew ?_ | refine blk_alloc ?_ _)); exact BK380.out), (by repeat (first | (with_reducible first | exact HI1.out | apply impl_LongestNest_1.IsN.alloc | apply impl_LongestNest_1.IsN.drewN | apply impl_LongestNest_1.IsN.drew | refine impl_LongestNest_1.IsN.far ?_ GN380.out _) | exact HI1.out)), (by repeat (first | (with_reducible first | exact HK.out | apply KeepBut.set_ | apply keep_drewN | apply keep_drew | apply keep_alloc | refine keep_far ?_ GW380.out _) | exact HK.out)), (by repeat (first | (with_reducible first | exact HB.out | apply below_alloc | apply pw_below_drewN | apply below_drew1 | refine below_set ?_ (impl_LongestNest_1.IsN.ge HI1.out) | refine below_set ?_ GE380.out) | exact HB.out))⟩)
                · skip
                  refine Kd.R_lit_step (Kd.int .i64) _ 2 ?hg (N := 40) ?hd (xs := ([x15_2] : List Int)) (inner := [.int .i64 x15_2]) (ok := fun _ => True) (okp := fun _ => True) ?hr ?hp (fun _ hk => hk) trivial (Below.refl _ _) (Nat.le_refl _) (by simp) ?_; (case hd => rfl); (case hg => rfl); (case hr => first | (go_simp; done) | (go_simp; rfl)); (case hp => exact (Reps.one (show Kd.M (Kd.int .i64) _ _ _ x15_2 [.int .i64 x15_2] from rfl) (Reps.none _ _)))
                  intro v388 w32 ho33 hb hg_ hnew_
                  clear hg_ hnew_
                  (first | rw [← Ny387.out] at ho33 | (simp only [Int.reduceToNat] at ho33; rw [← Ny387.out] at ho33))
                  have n0_ := Aside0.mk (Kd.R_lower ho33 (impl_LongestNest_1.IsN.le (show impl_LongestNest_1.IsN w0 _ g L C (some ad379) c2 l2 x2003_2 N from by repeat (first | (with_reducible first | exact HI1.out | apply impl_LongestNest_1.IsN.alloc | apply impl_LongestNest_1.IsN.drewN | apply impl_LongestNest_1.IsN.drew | refine impl_LongestNest_1.IsN.far ?_ GN380.out _) | exact HI1.out))))
                  have n1_ := Aside0.mk (blk_below (g := gb380) (o := .cells #[.int .i8 ((rd_T64 l2 x15_2).f0), .int .i8 ((rd_T64 l2 x15_2).f1), .int .i8 ((rd_T64 l2 x15_2).f2)] 64 (0, 0)) (by (with_reducible repeat (first | refine blk_drewN ?_ _ | refine blk_drew ?_ | refine blk_alloc ?_ _)); exact BK380.out) hb)
                  have n2_ := Aside0.mk (impl_LongestNest_1.IsN.below (by repeat (first | (with_reducible first | exact HI1.out | apply impl_LongestNest_1.IsN.alloc | apply impl_LongestNest_1.IsN.drewN | apply impl_LongestNest_1.IsN.drew | refine impl_LongestNest_1.IsN.far ?_ GN380.out _) | exact HI1.out)) hb)
                  have n3_ := Aside0.mk (KeepBut.trans (by repeat (first | (with_reducible first | exact HK.out | apply KeepBut.set_ | apply keep_drewN | apply keep_drew | apply keep_alloc | refine keep_far ?_ GW380.out _) | exact HK.out)) (KeepBut.of_below hb g none) (.inl rfl))
                  have n4_ := Aside0.mk (below_step (by repeat (first | (with_reducible first | exact HB.out | apply below_alloc | apply pw_below_drewN | apply below_drew1 | refine below_set ?_ (impl_LongestNest_1.IsN.ge HI1.out) | refine below_set ?_ GE380.out) | exact HB.out)) hb)
                  clear BK380
                  clear HI1
                  clear HK
                  clear HB
                  have HO389 := n0_
                  have BK380 := n1_
                  have HI1 := n2_
                  have HK := n3_
                  have HB := n4_
                  clear n0_ n1_ n2_ n3_ n4_
                  clear hb ho33
                  refine hK.out _ _ ((blk_cell (impl_LongestNest_1.IsN.cC HI1.out) 0).trans rfl) (fun hHeld => ?_)
                  clear hK K
                  refine norm_ (a' := ?_) ?_ ?_
                  rotate_left
                  · show Act.put _ (some 40) _ = _
                    simp only [Act.put, List.setIfInBounds_toArray, List.set_cons_zero, List.set_cons_succ, i64_w, i32_w]
                    rfl
                  refine one_ (i := 2) (N := some 38) #[true, true, true, true, true, false, false] rfl rfl (by kernel_rfl) (by decide) (fun K hK => ?_)
                  refine goes_ Try.func43 (by kernel_rfl) rfl #[.slice A0 l0.length c0] (by rfl) rfl rfl (by (try simp only [List.map_toArray, List.map_cons, List.map_nil]); first | done | rfl | (simp only [List.length_drop, List.length_take]; rfl)) ?_
                  with_reducible refine (slices_Clone_int64_int64.calls _ _ l0 t384 _ ?side1 ?side2 A28.out).mono ?_
                  (case side1 => exact Kd.C_keep 0 HR0.out (by repeat (first | (with_reducible first | exact HK.out | apply KeepBut.set_ | apply keep_drewN | apply keep_drew | apply keep_alloc | refine keep_far ?_ GW380.out _) | exact HK.out)) hf0)
                  (case side2 => exact HC0.out)
                  rintro e w34 ⟨v385, rfl, ho0, hb⟩
                  refine ⟨_, rfl, ?_⟩
                  have n0_ := Aside0.mk (Kd.R_elder' (by (with_reducible repeat (first | apply Kd.R_alloc | apply Kd.R_drewN | apply Kd.R_drew)); exact HO389.out) (Kd.R_base ho0) hb)
                  have n1_ := Aside0.mk (Kd.R_lower (Kd.R_new' ho0 (Kd.R_lt (by (with_reducible repeat (first | apply Kd.R_alloc | apply Kd.R_drewN | apply Kd.R_drew)); exact HO389.out))) (impl_LongestNest_1.IsN.le (show impl_LongestNest_1.IsN w0 _ g L C (some ad379) c2 l2 x2003_2 N from by repeat (first | (with_reducible first | exact HI1.out | apply impl_LongestNest_1.IsN.alloc | apply impl_LongestNest_1.IsN.drewN | apply impl_LongestNest_1.IsN.drew | refine impl_LongestNest_1.IsN.far ?_ GN380.out _) | exact HI1.out))))
                  have n2_ := Aside0.mk (blk_below (g := gb380) (o := .cells #[.int .i8 ((rd_T64 l2 x15_2).f0), .int .i8 ((rd_T64 l2 x15_2).f1), .int .i8 ((rd_T64 l2 x15_2).f2)] 64 (0, 0)) (by (with_reducible repeat (first | refine blk_drewN ?_ _ | refine blk_drew ?_ | refine blk_alloc ?_ _)); exact BK380.out) hb)
                  have n3_ := Aside0.mk (impl_LongestNest_1.IsN.below (by repeat (first | (with_reducible first | exact HI1.out | apply impl_LongestNest_1.IsN.alloc | apply impl_LongestNest_1.IsN.drewN | apply impl_LongestNest_1.IsN.drew | refine impl_LongestNest_1.IsN.far ?_ GN380.out _) | exact HI1.out)) hb)
                  have n4_ := Aside0.mk (KeepBut.trans (by repeat (first | (with_reducible first | exact HK.out | apply KeepBut.set_ | apply keep_drewN | apply keep_drew | apply keep_alloc | refine keep_far ?_ GW380.out _) | exact HK.out)) (KeepBut.of_below hb g none) (.inl rfl))
                  have n5_ := Aside0.mk (below_step (by repeat (first | (with_reducible first | exact HB.out | apply below_alloc | apply pw_below_drewN | apply below_drew1 | refine below_set ?_ (impl_LongestNest_1.IsN.ge HI1.out) | refine below_set ?_ GE380.out) | exact HB.out)) hb)
                  clear HO389
                  clear BK380
                  clear HI1
                  clear HK
                  clear HB
                  have HO389 := n0_
                  have HO386 := n1_
                  have BK380 := n2_
                  have HI1 := n3_
                  have HK := n4_
                  have HB := n5_
                  clear n0_ n1_ n2_ n3_ n4_ n5_
                  (try clear hb)
                  (try clear hb2)
                  (try clear hk)
                  (try clear hi)
                  (try clear ho0)
                  refine hK.out _ _ ((blk_cell (impl_LongestNest_1.IsN.cC HI1.out) 0).trans rfl) (fun hHeld => ?_)
                  clear hK K
                  refine norm_ (a' := ?_) ?_ ?_
                  rotate_left
                  · show Act.put _ (some 38) _ = _
                    simp only [Act.put, List.setIfInBounds_toArray, List.set_cons_zero, List.set_cons_succ, i64_w, i32_w]
                    rfl
                  exact norm_ (by simp only [putAll, Act.put, List.setIfInBounds_toArray, List.set_cons_zero, List.set_cons_succ]) (hCont (v385, v388) _ ⟨(by (with_reducible repeat (first | apply Kd.R_alloc | apply Kd.R_drewN | apply Kd.R_drew)); exact Kd.R_mono HO386.out (fun _ hk => hk.2)), (by (with_reducible repeat (first | apply Kd.R_alloc | apply Kd.R_drewN | apply Kd.R_drew)); exact Kd.R_mono HO389.out (fun _ hk => hk.2)), (by (with_reducible repeat (first | refine blk_drewN ?_ _ | refine blk_drew ?_ | refine blk_alloc ?_ _)); exact BK380.out), (by repeat (first | (with_reducible first | exact HI1.out | apply impl_LongestNest_1.IsN.alloc | apply impl_LongestNest_1.IsN.drewN | apply impl_LongestNest_1.IsN.drew | refine impl_LongestNest_1.IsN.far ?_ GN380.out _) | exact HI1.out)), (by repeat (first | (with_reducible first | exact HK.out | apply KeepBut.set_ | apply keep_drewN | apply keep_drew | apply keep_alloc | refine keep_far ?_ GW380.out _) | exact HK.out)), (by repeat (first | (with_reducible first | exact HB.out | apply below_alloc | apply pw_below_drewN | apply below_drew1 | refine below_set ?_ (impl_LongestNest_1.IsN.ge HI1.out) | refine below_set ?_ GE380.out) | exact HB.out))⟩)
              rintro ⟨v385, v388⟩ w35 ⟨h0_, h1_, h2_, h3_, h4_, h5_⟩
              have n0_ : Aside0 (Kd.R (Kd.int .i64) 2 w35 N (fun k_ => some k_ ≠ (v388 : Value).ownBlock) v385 t384) := ⟨h0_⟩
              have n1_ : Aside0 (Kd.R (Kd.int .i64) 2 w35 N (fun k_ => some k_ ≠ (v385 : Value).ownBlock) v388 y387) := ⟨h1_⟩
              have n2_ : Aside0 (w35.heap[gb380]? = some (.cells #[.int .i8 ((rd_T64 l2 x15_2).f0), .int .i8 ((rd_T64 l2 x15_2).f1), .int .i8 ((rd_T64 l2 x15_2).f2)] 64 (0, 0))) := ⟨h2_⟩
              have n3_ : Aside0 (impl_LongestNest_1.IsN w0 w35 g L C (some ad379) c2 l2 x2003_2 N) := ⟨h3_⟩
              have n4_ : Aside0 (KeepBut w w35 g none) := ⟨h4_⟩
              have n5_ : Aside0 (Below w0.heap.size w0 w35) := ⟨h5_⟩
              clear BK380
              clear HI1
              clear HK
              clear HB
              clear h0_ h1_ h2_ h3_ h4_ h5_
              have HO386 := n0_
              have HO389 := n1_
              have BK380 := n2_
              have HI1 := n3_
              have HK := n4_
              have HB := n5_
              clear n0_ n1_ n2_ n3_ n4_ n5_
              have hHeld := trivial
              obtain ⟨Ao37, co37, eo37⟩ := Kd.R_slice HO389.out
              (first | subst eo37 | (injection eo37 with f1_ f2_ f3_; have f4_ := f1_.symm; have f5_ := f3_.symm; clear f1_ f2_ f3_; subst f4_; subst f5_))
              refine norm_ (a' := ?_) ?_ ?_
              rotate_left
              · simp only [putAll, Act.put, List.setIfInBounds_toArray, List.set_cons_zero, List.set_cons_succ]
                rfl
              refine one_ (i := 5) (N := some 41) #[true, true, true, true, true, true, false] rfl rfl (by kernel_rfl) (by decide) (fun K hK => ?_)
              refine Kd.R_append_rows_step (Kd.int .i64) N (by rfl) (.tmp 38) (.tmp 40) 22 2 (.int .i64 0) 8 rfl Try.underlying22 info2 rfl (by decide) (by omega) v385 t384 y387 _ _ _ (fun k_ => some k_ ≠ (.slice Ao37 y387.length co37 : Value).ownBlock) (fun _ => False) rfl rfl ?aO ?aR (fun _ _ h => h) (fun _ h => h.elim) ?aF (Below.refl _ _) ?aS ?aL ?_
              (case aR => repeat (first | exact (Kd.R_reads' HO389.out).2.2 | (with_reducible refine Kd.C_alloc ?_ _) | (with_reducible refine Kd.C_drewN ?_ _) | (with_reducible refine Kd.C_drew ?_)))
              (case aF => exact (fun k_ hk => Kd.fresh' (Kd.R_lt (by (with_reducible repeat (first | apply Kd.R_alloc | apply Kd.R_drewN | apply Kd.R_drew)); exact HO389.out)) k_ hk))
              (case aO => exact (by (with_reducible repeat (first | apply Kd.R_alloc | apply Kd.R_drewN | apply Kd.R_drew)); exact HO386.out))
              (case aS => exact (impl_LongestNest_1.IsN.le (show impl_LongestNest_1.IsN w0 _ g L C (some ad379) c2 l2 x2003_2 N from by repeat (first | (with_reducible first | exact HI1.out | apply impl_LongestNest_1.IsN.alloc | apply impl_LongestNest_1.IsN.drewN | apply impl_LongestNest_1.IsN.drew | refine impl_LongestNest_1.IsN.far ?_ GN380.out _) | exact HI1.out))))
              (case aL => have := LMc29.out; omega)
              intro v391 w36 ho hb hg hat
              rw [← Ny390.out] at ho
              have n0_ := Aside0.mk (blk_grown (g := gb380) (o := .cells #[.int .i8 ((rd_T64 l2 x15_2).f0), .int .i8 ((rd_T64 l2 x15_2).f1), .int .i8 ((rd_T64 l2 x15_2).f2)] 64 (0, 0)) (by (with_reducible repeat (first | refine blk_drewN ?_ _ | refine blk_drew ?_ | refine blk_alloc ?_ _)); exact BK380.out) hg (Kd.R_ne HO386.out BK380.out (by decide)))
              have n1_ := Aside0.mk (impl_LongestNest_1.IsN.grown (by repeat (first | (with_reducible first | exact HI1.out | apply impl_LongestNest_1.IsN.alloc | apply impl_LongestNest_1.IsN.drewN | apply impl_LongestNest_1.IsN.drew | refine impl_LongestNest_1.IsN.far ?_ GN380.out _) | exact HI1.out)) hg (Kd.R_base2 HO386.out))
              have n2_ := Aside0.mk (Kd.R_after (ok := (fun _ => True)) (by (with_reducible repeat (first | apply Kd.R_alloc | apply Kd.R_drewN | apply Kd.R_drew)); exact Kd.R_mono HO389.out (fun _ hk => ⟨trivial, hk⟩)) hg hat)
              have n3_ := Aside0.mk (below_weaken (by repeat (first | (with_reducible first | exact HB.out | apply below_alloc | apply pw_below_drewN | apply below_drew1 | refine below_set ?_ (impl_LongestNest_1.IsN.ge HI1.out) | refine below_set ?_ GE380.out) | exact HB.out)) (Nat.le_trans HL.out HNW.out) hb)
              have n4_ := Aside0.mk (KeepBut.trans (by repeat (first | (with_reducible first | exact HK.out | apply KeepBut.set_ | apply keep_drewN | apply keep_drew | apply keep_alloc | refine keep_far ?_ GW380.out _) | exact HK.out)) (KeepBut.of_grown hg g) (Kd.R_base2 (Kd.R_lower HO386.out HNW.out)))
              have n5_ := Aside0.mk (ho)
              clear BK380
              clear HI1
              clear HO389
              clear HB
              clear HK
              clear HO386
              have BK380 := n0_
              have HI1 := n1_
              have HO389 := n2_
              have HB := n3_
              have HK := n4_
              have HO392 := n5_
              clear n0_ n1_ n2_ n3_ n4_ n5_
              clear ho hb hg hat
              obtain ⟨Ao38, co38, eo38⟩ := Kd.R_slice HO392.out
              (first | subst eo38 | (injection eo38 with f1_ f2_ f3_; have f4_ := f1_.symm; have f5_ := f3_.symm; clear f1_ f2_ f3_; subst f4_; subst f5_))
              refine hK.out _ _ ((blk_cell (impl_LongestNest_1.IsN.cC HI1.out) 0).trans rfl) (fun hHeld => ?_)
              clear hK K
              refine norm_ (a' := ?_) ?_ ?_
              rotate_left
              · show Act.put _ (some 41) _ = _
                simp only [Act.put, List.setIfInBounds_toArray, List.set_cons_zero, List.set_cons_succ, i64_w, i32_w]
                rfl
              refine one_ (i := 6) (N := some 42) #[true, true, true, true, true, true, true] rfl rfl (by kernel_rfl) (by decide) (fun K hK => ?_)
              refine impl_mayPile.goesFC_ Try.func41 (by kernel_rfl) rfl #[.slice Ao38 y390.length co38] (lb := #[.pointer (some ⟨g, 0, none⟩), .pointer (some ⟨L, 0, none⟩), .pointer (some ⟨C, 0, none⟩)]) (by rfl) rfl rfl (by (try simp only [List.map_toArray, List.map_cons, List.map_nil]); first | done | rfl | (simp only [List.length_drop, List.length_take]; rfl)) ?_
              refine (ih kj10 (by have := HJ3.out; have := HK2.out; have := HJ10.out; omega) _ _ y390 x2003_2 _ c2 l2 t393 _ (impl_LongestNest_1.IsN.up HI1.out) HB.out (Kd.R_lower (Kd.R_mono (Kd.R_bound HO392.out) (fun k_ hk_ => by have h1_ := hk_.2.1; have h2_ := impl_LongestNest_1.IsN.ltN HI1.out; omega)) (Nat.le_trans HL.out HNW.out)) (Kd.C_foot_step HR2.out HK.out) HC2.out A30.out).mono ?_
              rintro e w39 ⟨rfl, hi, hb, hk⟩
              refine ⟨_, rfl, ?_⟩
              have n0_ := Aside0.mk (KeepBut.blk hk (g' := gb380) (o := .cells #[.int .i8 ((rd_T64 l2 x15_2).f0), .int .i8 ((rd_T64 l2 x15_2).f1), .int .i8 ((rd_T64 l2 x15_2).f2)] 64 (0, 0)) (by (with_reducible repeat (first | refine blk_drewN ?_ _ | refine blk_drew ?_ | refine blk_alloc ?_ _)); exact BK380.out) NB380_1.out (by simp))
              have n3_ := Aside0.mk (KeepBut.trans (by repeat (first | (with_reducible first | exact HK.out | apply KeepBut.set_ | apply keep_drewN | apply keep_drew | apply keep_alloc | refine keep_far ?_ GW380.out _) | exact HK.out)) hk (.inl rfl))
              have n4_ := Aside0.mk (hb)
              have n5_ := Aside0.mk (hi)
              clear BK380
              clear HO389
              clear HO392
              clear HK
              clear HB
              clear HI1
              have BK380 := n0_
              have HK := n3_
              have HB := n4_
              have HI1 := n5_
              clear n0_ n3_ n4_ n5_
              (try clear hb)
              (try clear hb2)
              (try clear hk)
              (try clear hi)
              refine hK.out _ _ ((blk_cell (impl_LongestNest_1.IsN.cC HI1.out) 0).trans rfl) (fun hHeld => ?_)
              clear hK K
              refine norm_ (a' := ?_) ?_ ?_
              rotate_left
              · show Act.put _ (some 42) _ = _
                simp only [Act.put, List.setIfInBounds_toArray, List.set_cons_zero, List.set_cons_succ, i64_w, i32_w]
                rfl
              refine done_ (by kernel_rfl) ?_
              try go_wp2
              go_roundg kj10
              case measure => have := HJ3.out; have := HK2.out; have := HJ10.out; omega
              case rel => exact ⟨(wrap64 (x15_2 + 1)), (t393), _, (by first | rfl | (simp; done) | (simp [*]; done)), H', ⟨by have := HJ3.out; have := HK2.out; have := HJ10.out; omega⟩, ⟨impl_LongestNest_1.IsN.up HI1.out⟩, ⟨keep_size (w := w) (g := g) (row := none) (by repeat (first | (with_reducible first | exact HK.out | apply KeepBut.set_ | apply keep_drewN | apply keep_drew | apply keep_alloc | refine keep_far ?_ GW380.out _) | exact HK.out))⟩, ⟨by repeat (first | (with_reducible first | exact HK.out | apply KeepBut.set_ | apply keep_drewN | apply keep_drew | apply keep_alloc | refine keep_far ?_ GW380.out _) | exact HK.out)⟩, ⟨by repeat (first | (with_reducible first | exact HB.out | apply below_alloc | apply pw_below_drewN | apply below_drew1 | refine below_set ?_ (impl_LongestNest_1.IsN.ge HI1.out) | refine below_set ?_ GE380.out) | exact HB.out)⟩⟩
end Go.Proofs.Ytipdmnibjkdpcaa.P

namespace Go.Proofs.Ytipdmnibjkdpcaa.P
open Go.RowKit Go.Proofs.YtipdmnibjkdpcaaW.PrintWords Go.Proofs.YtipdmnibjkdpcaaW.PrintLast Go.Proofs.YtipdmnibjkdpcaaW.PrintMore
attribute [local go_sem] max2_int min2_int max_two min_two max_three min_three max_four min_four
set_option linter.unusedVariables false
set_option linter.unusedSimpArgs false
theorem impl_LongestNest.run_store_func {P : Program} {w : World} {a : Addr} {m : Mode} (f : Fn) (x y : Array Value) : (store a (.func f x y) m).run P w = stored P w a (.func f x y) m := run_store P w a _ m rfl
attribute [local go_sem] impl_LongestNest.run_store_func
def impl_LongestNest.f (k : Nat) (l0 : List (S64)) : Option (List Int × Int) := (impl_boxesCode.f k l0).bind fun t845 => (if t845 = 0 then ((impl_LongestNest_1.f k ([] : List Int) ([] : List Int) l0).bind fun t846 => (some (t846, 0))) else (some (([] : List Int), t845)))
set_option maxHeartbeats 8000000 in
set_option maxRecDepth 100000 in
theorem impl_LongestNest.calls (k : Nat) (A0 : Option Addr) (c0 : Nat) (l0 : List (S64)) (r1 : List Int) (r2 : Int) (w : World) (hr0 : Kd.C k64 w A0 l0.length l0) (hc0 : l0.length ≤ c0) (h : impl_LongestNest.f k l0 = some (r1, r2)) :
    Calls Try.prog 20 #[.slice A0 l0.length c0] w fun e w' => ∃ v0_ : Value, e = .returned (.tuple #[v0_, .int .i64 r2]) ∧ Kd.R (Kd.int .i64) 2 w' w.heap.size (fun _ => True) v0_ r1 ∧ Below w.heap.size w w' := by
  have HR0 := Aside0.mk hr0
  have HC0 := Aside0.mk hc0
  clear hr0 hc0
  have HB := Aside0.mk (Below.refl w.heap.size w)
  have hL0 := Aside0.mk (blk_new w (.cells #[.slice A0 l0.length c0] 35 (0, 0)))
  have hx2 : (w.alloc (.cells #[.slice A0 l0.length c0] 35 (0, 0))).cell? ⟨w.heap.size, 0, none⟩ = some (.slice A0 l0.length c0) := (blk_cell (blk_new w _) 0).trans rfl
  have H : ((impl_boxesCode.f k l0).bind fun t845 => (if t845 = 0 then ((impl_LongestNest_1.f k ([] : List Int) ([] : List Int) l0).bind fun t846 => (some (t846, 0))) else (some (([] : List Int), t845)))) = some (r1, r2) := h
  clear h
  replace H := Option.bind_eq_some_iff.mp H
  obtain ⟨t845, A30, H⟩ := H
  have A3 := Aside0.mk A30
  clear A30
  by_cases c4 : t845 = 0
  rotate_left
  · rw [if_neg c4] at H
    have c4b0 : (t845 == 0) = false := beq_eq_false_iff_ne.mpr c4
    have c4b1 : (t845 != 0) = true := bne_iff_ne.mpr c4
    simp only [Option.some.injEq, Prod.mk.injEq] at H
    obtain ⟨rfl, rfl⟩ := H
    go_enter Try.func20, Try.ntmps20
    go_wp2_with (first | ((with_reducible refine gate_callee (f := 40) rfl ?_); refine goesL_ (some 8) rfl rfl Try.func40 (by kernel_rfl) rfl #[.slice A0 l0.length c0] rfl (by (try simp only [List.map_toArray, List.map_cons, List.map_nil]); first | done | rfl | (simp only [List.length_drop, List.length_take]; rfl)) ?_; (with_reducible refine (impl_boxesCode.calls k _ _ l0 t845 _ ?side1 ?side2 A3.out).mono ?_); (case side1 => repeat (first | exact HR0.out | (with_reducible refine Kd.C_alloc ?_ _) | (with_reducible refine Kd.C_drewN ?_ _) | (with_reducible refine Kd.C_drew ?_))); (case side2 => exact HC0.out); rintro e w1 ⟨rfl, hb⟩; have hL_ := blk_below hL0.out hb; have HBL := Aside0.mk hL_; clear hL_ hL0; refine ⟨_, rfl, ?_⟩; have n0_ := Aside0.mk (below_step (by repeat (first | (with_reducible first | exact HB.out | apply below_alloc | apply pw_below_drewN | apply below_drew1) | exact HB.out)) hb); clear HB; have HB := n0_; clear n0_; clear hb))
    go_ret2
    exact ⟨_, by first | rfl | (simp [errW_none, errW_some] <;> rfl) | (simp [*, errW_none, errW_some] <;> rfl), by first | exact Kd.R_nil _ _ _ _ _ | exact Kd.N_nil _ _ _ _ _ | exact Kd.V_nil _ _ _ _ _ | exact Kd.Q_nil _ _ _ _ _ | exact Kd.S_nil _ _ _ _ _, by repeat (first | (with_reducible first | exact HB.out | apply below_alloc | apply pw_below_drewN | apply below_drew1) | exact HB.out)⟩
  rw [if_pos c4] at H
  have c4b0 : (t845 == 0) = true := beq_iff_eq.mpr c4
  have c4b1 : (t845 != 0) = false := bne_eq_false_iff_eq.mpr c4
  clear c4
  replace H := Option.bind_eq_some_iff.mp H
  obtain ⟨t846, A50, H⟩ := H
  have A5 := Aside0.mk A50
  clear A50
  simp only [Option.some.injEq, Prod.mk.injEq] at H
  obtain ⟨rfl, rfl⟩ := H
  go_enter Try.func20, Try.ntmps20
  go_wp2_with (first | ((with_reducible refine gate_callee (f := 40) rfl ?_); refine goesL_ (some 8) rfl rfl Try.func40 (by kernel_rfl) rfl #[.slice A0 l0.length c0] rfl (by (try simp only [List.map_toArray, List.map_cons, List.map_nil]); first | done | rfl | (simp only [List.length_drop, List.length_take]; rfl)) ?_; (with_reducible refine (impl_boxesCode.calls k _ _ l0 t845 _ ?side1 ?side2 A3.out).mono ?_); (case side1 => repeat (first | exact HR0.out | (with_reducible refine Kd.C_alloc ?_ _) | (with_reducible refine Kd.C_drewN ?_ _) | (with_reducible refine Kd.C_drew ?_))); (case side2 => exact HC0.out); rintro e w1 ⟨rfl, hb⟩; have hL_ := blk_below hL0.out hb; have HBL := Aside0.mk hL_; clear hL_ hL0; refine ⟨_, rfl, ?_⟩; have n0_ := Aside0.mk (below_step (by repeat (first | (with_reducible first | exact HB.out | apply below_alloc | apply pw_below_drewN | apply below_drew1) | exact HB.out)) hb); clear HB; have HB := n0_; clear n0_; clear hb) | ((with_reducible refine gate_dst (N := 12) rfl ?_); (try (refine gate_guard (by rfl) ?_; dsimp only)); refine Kd.R_lit (Kd.int .i64) _ 2 ?hg (N := 12) ?hd (xs := ([] : List Int)) (inner := []) (ok := fun _ => True) (okp := fun _ => True) ?hr ?hp (fun _ hk => hk) trivial (Below.refl _ _) (Nat.le_refl _) (by simp) ?_; (case hd => rfl); (case hg => rfl); (case hr => first | (go_simp; done) | (go_simp; rfl)); (case hp => exact (Reps.none _ _)); intro v12 w12 ho hb hg_ hnew_; clear hg_ hnew_; have n1_ := Aside0.mk (Kd.R_lower ho (below_size (by repeat (first | (with_reducible first | exact HB.out | apply below_alloc | apply pw_below_drewN | apply below_drew1) | exact HB.out)))); have n2_ := Aside0.mk (blk_below (by (with_reducible repeat (first | refine blk_drewN ?_ _ | refine blk_drew ?_)); exact HBL.out) hb); have n0_ := Aside0.mk (below_step (by repeat (first | (with_reducible first | exact HB.out | apply below_alloc | apply pw_below_drewN | apply below_drew1) | exact HB.out)) hb); clear HB HBL; have HB := n0_; have HO := n1_; have HBL := n2_; clear n0_ n1_ n2_ ho hb; obtain ⟨A12, c12, e12⟩ := Kd.R_slice HO.out; subst e12) | ((with_reducible refine gate_dst (N := 5) rfl ?_); refine box_event ?hg (N := 5) ?hd (cs := #[.slice none 0 0]) (t := 22) ?hr ?_; (case hd => rfl); (case hg => rfl); (case hr => first | (go_simp; done) | (go_simp; rfl)); intro gB hgB w5 hblk hb; have HGB := Aside0.mk (show w.heap.size + 1 ≤ gB from by (rw [hgB]; have h_ := blk_lt (g := w.heap.size) (o := (.cells #[.slice A0 l0.length c0] 35 (0, 0))) (by (with_reducible repeat (first | refine blk_drewN ?_ _ | refine blk_drew ?_)); exact HBL.out); exact h_)); have n1_ := Aside0.mk (Kd.R_below (by (with_reducible repeat (first | apply Kd.R_drewN | apply Kd.R_drew)); exact HO.out) hb); have n2_ := Aside0.mk (blk_below (by (with_reducible repeat (first | refine blk_drewN ?_ _ | refine blk_drew ?_)); exact HBL.out) hb); have n3_ := Aside0.mk (show some gB ≠ (.slice A12 0 c12 : Value).ownBlock from fun e_ => by have h_ := Kd.R_lt HO.out gB e_.symm; rw [hgB] at h_; exact Nat.lt_irrefl _ h_); have n0_ := Aside0.mk (below_step (by repeat (first | (with_reducible first | exact HB.out | apply below_alloc | apply pw_below_drewN | apply below_drew1) | exact HB.out)) hb); clear HB HBL HO; have HB := n0_; have HO := n1_; have HBL := n2_; have HNE := n3_; clear n0_ n1_ n2_ n3_; have HBK := Aside0.mk hblk; have hq5 : w5.cell? ⟨gB, 0, none⟩ = some (.slice none 0 0) := (blk_cell hblk 0).trans rfl; have hf5 := blk_frozen hblk 0; clear hgB hblk hb) | ((with_reducible refine gate_store (t := 22) (p := 5) rfl ?_); refine store_event (t := 22) (p := 5) (v := .tmp 12) (w1 := (w5.setCell ⟨gB, 0, none⟩ (.slice A12 0 c12))) ?hg ?ho ?hn ?hr ?_; (case ho => rfl); (case hg => rfl); (case hn => rfl); (case hr => first | (go_simp; done) | (go_simp; rfl)); intro w6 hw; have n0_ := Aside0.mk (show Below w.heap.size w w6 from by rw [hw]; exact HB.out.setCell (Nat.le_trans (Nat.le_succ _) HGB.out) _); have n1_ := Aside0.mk (show Kd.R (Kd.int .i64) 2 w6 w.heap.size (fun k_ => k_ ≠ gB) (.slice A12 0 c12) [] from by rw [hw]; exact Kd.R_far (Kd.R_mono (Kd.R_far1 HO.out rfl HNE.out) (fun k_ hk => hk.2)) (p := ⟨gB, 0, none⟩) (fun k_ hk => hk) _); have n2_ := Aside0.mk (show w6.heap[w.heap.size]? = some (.cells #[.slice A0 l0.length c0] 35 (0, 0)) from by rw [hw]; exact blk_far HBL.out (p := ⟨gB, 0, none⟩) (by show w.heap.size ≠ gB; have h_ := HGB.out; omega) _); have n3_ := Aside0.mk (show w6.heap[gB]? = some (.cells #[.slice A12 0 c12] 22 (0, 0)) from by rw [hw]; exact blk_put HBK.out 0 _ rfl); clear HB HBL HO HBK HNE hq5 hf5 hw; have HB := n0_; have HO := n1_; have HBL := n2_; have HBK := n3_; clear n0_ n1_ n2_ n3_) | ((with_reducible refine gate_dst (N := 6) rfl ?_); refine box_event ?hg (N := 6) ?hd (cs := #[.nilFunc]) (t := 68) ?hr ?_; (case hd => rfl); (case hg => rfl); (case hr => first | (go_simp; done) | (go_simp; rfl)); intro gC hgC w7 hblk hb; have n4_ := Aside0.mk (show gB < gC from by rw [hgC]; exact blk_lt (o := .cells #[.slice A12 0 c12] 22 (0, 0)) (by (with_reducible repeat (first | refine blk_drewN ?_ _ | refine blk_drew ?_)); exact HBK.out)); have n1_ := Aside0.mk (Kd.R_below (by (with_reducible repeat (first | apply Kd.R_drewN | apply Kd.R_drew)); exact HO.out) hb); have n2_ := Aside0.mk (blk_below (by (with_reducible repeat (first | refine blk_drewN ?_ _ | refine blk_drew ?_)); exact HBL.out) hb); have n3_ := Aside0.mk (blk_below (by (with_reducible repeat (first | refine blk_drewN ?_ _ | refine blk_drew ?_)); exact HBK.out) hb); have n5_ := Aside0.mk (show ∀ k_, some k_ = (.slice A12 0 c12 : Value).ownBlock → k_ ≠ gC from fun k_ e_ => by have h_ := Kd.R_lt HO.out k_ e_.symm; rw [hgC]; exact Nat.ne_of_lt h_); have n0_ := Aside0.mk (below_step (by repeat (first | (with_reducible first | exact HB.out | apply below_alloc | apply pw_below_drewN | apply below_drew1) | exact HB.out)) hb); clear HB HBL HO HBK; have HB := n0_; have HO := n1_; have HBL := n2_; have HBK := n3_; have HGC := n4_; have HNC := n5_; clear n0_ n1_ n2_ n3_ n4_ n5_; have HCK := Aside0.mk hblk; have hq7 : w7.cell? ⟨gC, 0, none⟩ = some (.nilFunc) := (blk_cell hblk 0).trans rfl; have hf7 := blk_frozen hblk 0; clear hgC hblk hb) | ((with_reducible refine gate_store (t := 68) (p := 6) rfl ?_); refine store_event (t := 68) (p := 6) (v := .tmp 13) (w1 := (w7.setCell ⟨gC, 0, none⟩ (.func (.func 41) #[] #[.pointer (some ⟨gB, 0, none⟩), .pointer (some ⟨w.heap.size, 0, none⟩), .pointer (some ⟨gC, 0, none⟩)]))) ?hg2 ?ho2 ?hn2 ?hr2 ?_; (case ho2 => rfl); (case hg2 => rfl); (case hn2 => rfl); (case hr2 => first | (go_simp; done) | (go_simp; rfl)); intro w8 hw; have n0_ := Aside0.mk (show Below w.heap.size w w8 from by rw [hw]; exact HB.out.setCell (by have h1_ := HGB.out; have h2_ := HGC.out; show w.heap.size ≤ gC; omega) _); have n1_ := Aside0.mk (show Kd.R (Kd.int .i64) 2 w8 w.heap.size (fun k_ => k_ ≠ gB) (.slice A12 0 c12) [] from by rw [hw]; exact Kd.R_mono (Kd.R_far (p := ⟨gC, 0, none⟩) (Kd.R_mono (Kd.R_tight rfl HO.out) (fun k_ hk => (⟨HO.out.1 k_ hk.symm, HNC.out k_ hk⟩ : k_ ≠ gB ∧ k_ ≠ gC))) (fun k_ hk => hk.2) _) (fun k_ hk => hk.1)); have n2_ := Aside0.mk (show w8.heap[w.heap.size]? = some (.cells #[.slice A0 l0.length c0] 35 (0, 0)) from by rw [hw]; exact blk_far HBL.out (p := ⟨gC, 0, none⟩) (by show w.heap.size ≠ gC; have h_ := HGB.out; have h2_ := HGC.out; omega) _); have n3_ := Aside0.mk (show w8.heap[gB]? = some (.cells #[.slice A12 0 c12] 22 (0, 0)) from by rw [hw]; exact blk_far HBK.out (p := ⟨gC, 0, none⟩) (by show gB ≠ gC; have h2_ := HGC.out; omega) _); have n4_ := Aside0.mk (show w8.heap[gC]? = some (.cells #[.func (.func 41) #[] #[.pointer (some ⟨gB, 0, none⟩), .pointer (some ⟨w.heap.size, 0, none⟩), .pointer (some ⟨gC, 0, none⟩)]] 68 (0, 0)) from by rw [hw]; exact blk_put HCK.out 0 _ rfl); clear HB HBL HO HBK HCK HNC hq7 hf7 hw; have HB := n0_; have HO := n1_; have HBL := n2_; have HBK := n3_; have HCK := n4_; clear n0_ n1_ n2_ n3_ n4_; have hq8 : w8.cell? ⟨gC, 0, none⟩ = some (.func (.func 41) #[] #[.pointer (some ⟨gB, 0, none⟩), .pointer (some ⟨w.heap.size, 0, none⟩), .pointer (some ⟨gC, 0, none⟩)]) := (blk_cell HCK.out 0).trans rfl) | (go_at_call 41; (refine (impl_LongestNest_1.calls gB w.heap.size gC w k none 0 [] [] A0 c0 l0 t846 _ (show impl_LongestNest_1.IsN w w8 gB w.heap.size gC A0 c0 l0 [] w8.heap.size from ⟨_, HBK.out, Kd.R_mono (Kd.R_bound HO.out) (fun k_ hk => ⟨hk.1, hk.2.2.1⟩), HBL.out, HCK.out, by have h1_ := HGB.out; have h2_ := HGC.out; have h3_ := blk_lt HCK.out; have h4_ := blk_lt HBK.out; have h5_ := blk_lt HBL.out; omega⟩) HB.out (Kd.R_nil _ _ _ _ _) (Kd.C_foot_came k64_heap HR0.out HB.out (by have h1_ := HGB.out; omega)) HC0.out A5.out).mono ?_); rintro e w9 ⟨rfl, hi, hb, hk⟩; obtain ⟨vb9, hblk9, hR9, hrest9⟩ := hi; clear hrest9 hk; obtain ⟨A9, c9, e9⟩ := Kd.R_slice hR9; subst e9; have hq9 : w9.cell? ⟨gB, 0, none⟩ = some (.slice A9 t846.length c9) := (blk_cell hblk9 0).trans rfl; have HO9 := Aside0.mk hR9; clear HB; have HB := Aside0.mk hb; clear hb hblk9 hR9 hq8))
  go_ret2
  exact ⟨_, rfl, by (with_reducible repeat (first | apply Kd.R_drewN | apply Kd.R_drew)); exact Kd.R_mono HO9.out (fun _ _ => trivial), by repeat (first | (with_reducible first | exact HB.out | apply below_alloc | apply pw_below_drewN | apply below_drew1) | exact HB.out)⟩
end Go.Proofs.Ytipdmnibjkdpcaa.P
