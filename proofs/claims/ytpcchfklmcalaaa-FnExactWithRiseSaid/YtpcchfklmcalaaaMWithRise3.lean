/- The Go functions that the law FnExactWithRise comes to, as plain Lean functions, the proofs that calls of them return what those tell, and the plain lemmas on them; no condition but those that each theorem states. -/
import Derived.Test.YtpcchfklmcalaaaMWithRise1
import Derived.Test.YtpcchfklmcalaaaMWithRise2
import Derived.OpenShut
import Derived.Test.YtpcchfklmcalaaaRows
import Derived.Test.YtpcchfklmcalaaaWMore
import Derived.Deep.Slices
import Derived.WalkKit
import Derived.ProofKit
import Derived.ShutString
import Derived.ChangeOld
import Derived.Below
import Derived.SizedLaws
import Derived.ChangeArms
import Derived.Carry
namespace Go.Proofs.Ytpcchfklmcalaaa.P
open Go.RowKit Go.Proofs.YtpcchfklmcalaaaW.PrintWords Go.Proofs.YtpcchfklmcalaaaW.PrintLast Go.Proofs.YtpcchfklmcalaaaW.PrintMore
attribute [local go_sem] max2_int min2_int max_two min_two max_three min_three max_four min_four   -- for this text's walks alone
set_option linter.unusedVariables false
set_option linter.unusedSimpArgs false

/-! ### laws_FnExactWithRise: function 10, by hand -/
def laws_FnExactWithRise.f (k : Nat) (l0_0 : List Int) (l0_1 : List (List Int)) (a1 : Int) : Option Bool :=
  (laws_szTable.f k l0_0 l0_1 1048576).bind fun t0 => if t0 < 0 then some true else
  (laws_toTable.f k l0_0 l0_1).bind fun y => (spec_WithRise.f k y.1 y.2 a1).bind fun s => (impl_WithRise.f k y.1 y.2 a1).bind fun g =>
  (laws_eqTable.f k g.1 g.2.1 s.1 s.2.1).bind fun q1 => if q1 = true ∧ g.2.2 = s.2.2 then
    (laws_eqTable.f k y.1 y.2 y.1 y.2).bind fun q2 => if q2 = true then
      (laws_markTable.f k y.1 y.2 1).bind fun m => if m.1 < 0 then some false else
      (laws_markTable.f k g.1 g.2.1 1).bind fun n => (laws_heldTable.f k n.2.1 n.2.2 1).bind fun h => if h < 0 then some false else if h = n.1 then some true else some false
    else some false
  else some false
theorem laws_FnExactWithRise.mono : ∀ a0 a1 a2 k, LeO (laws_FnExactWithRise.f k a0 a1 a2) (laws_FnExactWithRise.f (k + 1) a0 a1 a2) := fun a0 a1 a2 k => by
  unfold laws_FnExactWithRise.f
  repeat' first
    | (with_reducible exact laws_szTable.mono _ _ _ _)
    | (with_reducible exact laws_toTable.mono _ _ _)
    | (with_reducible exact spec_WithRise.mono _ _ _ _)
    | (with_reducible exact impl_WithRise.mono _ _ _ _)
    | (with_reducible exact laws_eqTable.mono _ _ _ _ _)
    | (with_reducible exact laws_markTable.mono _ _ _ _)
    | (with_reducible exact laws_heldTable.mono _ _ _ _)
    | (with_reducible exact LeO.refl _)
    | (with_reducible refine LeO.ite ?_ ?_)
    | (with_reducible refine LeO.bind ?_ (fun _ => ?_))
set_option maxHeartbeats 16000000 in
set_option maxRecDepth 100000 in
theorem laws_FnExactWithRise.calls (k : Nat) (A0_0 : Option Addr) (c0_0 : Nat) (l0_0 : List Int) (A0_1 : Option Addr) (c0_1 : Nat) (l0_1 : List (List Int)) (a1 : Int) (r : Bool) (w : World) (hr0_0 : Kd.C (Kd.int .i16) w A0_0 l0_0.length l0_0) (hc0_0 : l0_0.length ≤ c0_0) (hr0_1 : Kd.C (Kd.slice 57 (Kd.int .i16)) w A0_1 l0_1.length l0_1) (hc0_1 : l0_1.length ≤ c0_1) (h : laws_FnExactWithRise.f k l0_0 l0_1 a1 = some r) (hlaw_ : r = true := by rfl) :
    Calls Try.prog 10 #[.agg #[.slice A0_0 l0_0.length c0_0, .slice A0_1 l0_1.length c0_1], .int .i64 a1] w fun e w' => e = .returned (.bool r) ∧ Below w.heap.size w w' := by
  subst hlaw_
  have hu25 := Try.underlying25
  have hu28 := Try.underlying28
  have HR0_0 := Aside0.mk hr0_0
  have HC0_0 := Aside0.mk hc0_0
  have HR0_1 := Aside0.mk hr0_1
  have HC0_1 := Aside0.mk hc0_1
  clear hr0_0 hc0_0 hr0_1 hc0_1
  have HB := Aside0.mk (Below.refl w.heap.size w)
  unfold laws_FnExactWithRise.f at h
  replace h := Option.bind_eq_some_iff.mp h
  obtain ⟨t0, hA0, h⟩ := h
  have HA0 := Aside0.mk hA0
  clear hA0
  by_cases c0 : t0 < 0
  · have c0b : decide (t0 < 0) = true := decide_eq_true c0
    clear h c0
    go_enter Try.func10, Try.ntmps10
    go_wp2_with (first | ((with_reducible refine gate_dst (N := 2) rfl ?_); refine box_event ?hg (N := 2) ?hd (cs := #[.slice A0_0 l0_0.length c0_0, .slice A0_1 l0_1.length c0_1]) (t := 25) ?hr ?_; (case hd => rfl); (case hg => rfl); (case hr => first | (go_simp; done) | (go_simp; rfl)); intro ga hg w5 hbox hb; have n0_ := Aside0.mk (below_step (by repeat (first | (with_reducible first | exact HB.out | apply below_alloc | apply pw_below_drewN | apply below_drew1) | exact HB.out)) hb); have n1_ := Aside0.mk hbox; have n2_ := Aside0.mk (by rw [hg]; exact (below_size (by repeat (first | (with_reducible first | exact HB.out | apply below_alloc | apply pw_below_drewN | apply below_drew1) | exact HB.out))) : w.heap.size ≤ ga); clear HB; have HB := n0_; have BKa := n1_; have GEa := n2_; clear n0_ n1_ n2_; clear hb hbox hg; have hcz5_a0 : w5.cell? ⟨ga, 0, none⟩ = some (.slice A0_0 l0_0.length c0_0) := (blk_cell BKa.out 0).trans rfl; have hfz5_a0 := blk_frozen BKa.out 0; have hcz5_a1 : w5.cell? ⟨ga, 1, none⟩ = some (.slice A0_1 l0_1.length c0_1) := (blk_cell BKa.out 1).trans rfl; have hfz5_a1 := blk_frozen BKa.out 1) | ((with_reducible refine gate_callee (f := 12) rfl ?_); refine goesL_ (some 18) rfl rfl Try.func12 (by kernel_rfl) rfl #[.agg #[.slice A0_0 l0_0.length c0_0, .slice A0_1 l0_1.length c0_1], .int .i64 1048576] rfl (by (try simp only [List.map_toArray, List.map_cons, List.map_nil]); first | done | rfl | (simp only [List.length_drop, List.length_take]; rfl)) ?_; (refine (laws_szTable.calls k _ _ l0_0 _ _ l0_1 1048576 t0 _ ?side1 ?side2 ?side3 ?side4 HA0.out).mono ?_); (case side1 => exact (Kd.C_below HR0_0.out (by repeat (first | (with_reducible first | exact HB.out | apply below_alloc | apply pw_below_drewN | apply below_drew1 | refine below_set ?_ GEa.out) | exact HB.out)))); (case side2 => exact HC0_0.out); (case side3 => exact (Kd.C_below HR0_1.out (by repeat (first | (with_reducible first | exact HB.out | apply below_alloc | apply pw_below_drewN | apply below_drew1 | refine below_set ?_ GEa.out) | exact HB.out)))); (case side4 => exact HC0_1.out); rintro e w7 ⟨rfl, hb⟩; refine ⟨_, rfl, ?_⟩; (try clear hcz5_a0); (try clear hfz5_a0); (try clear hcz5_a1); (try clear hfz5_a1); have n0_ := Aside0.mk (blk_below (g := ga) (o := (.cells #[.slice A0_0 l0_0.length c0_0, .slice A0_1 l0_1.length c0_1] 25 (0, 0))) (by (with_reducible repeat (first | refine blk_drewN ?_ _ | refine blk_drew ?_ | refine blk_alloc ?_ _)); exact BKa.out) hb); have n1_ := Aside0.mk (below_step (by repeat (first | (with_reducible first | exact HB.out | apply below_alloc | apply pw_below_drewN | apply below_drew1 | refine below_set ?_ GEa.out) | exact HB.out)) hb); clear BKa; clear HB; have BKa := n0_; have HB := n1_; clear n0_ n1_; clear hb; have hcz7_a0 : w7.cell? ⟨ga, 0, none⟩ = some (.slice A0_0 l0_0.length c0_0) := (blk_cell BKa.out 0).trans rfl; have hfz7_a0 := blk_frozen BKa.out 0; have hcz7_a1 : w7.cell? ⟨ga, 1, none⟩ = some (.slice A0_1 l0_1.length c0_1) := (blk_cell BKa.out 1).trans rfl; have hfz7_a1 := blk_frozen BKa.out 1))
    go_ret
    exact ⟨rfl, (by repeat (first | (with_reducible first | exact HB.out | apply below_alloc | apply pw_below_drewN | apply below_drew1 | refine below_set ?_ GEa.out) | exact HB.out))⟩
  · rw [if_neg c0] at h
    have c0b : decide (t0 < 0) = false := decide_eq_false c0
    clear c0
    replace h := Option.bind_eq_some_iff.mp h
    obtain ⟨⟨yl0, yl1⟩, hA1, h⟩ := h
    replace h := Option.bind_eq_some_iff.mp h
    obtain ⟨⟨sl0, sl1, sc⟩, hA2, h⟩ := h
    replace h := Option.bind_eq_some_iff.mp h
    obtain ⟨⟨gl0, gl1, gc⟩, hA3, h⟩ := h
    replace h := Option.bind_eq_some_iff.mp h
    obtain ⟨q1, hA4, h⟩ := h
    by_cases c1 : q1 = true ∧ gc = sc
    case neg => rw [if_neg c1] at h; simp at h
    rw [if_pos c1] at h
    obtain ⟨rfl, rfl⟩ := c1
    replace h := Option.bind_eq_some_iff.mp h
    obtain ⟨q2, hA5, h⟩ := h
    by_cases c2 : q2 = true
    case neg => rw [if_neg c2] at h; simp at h
    rw [if_pos c2] at h
    subst c2
    replace h := Option.bind_eq_some_iff.mp h
    obtain ⟨⟨m1, xl0, xl1⟩, hA6, h⟩ := h
    by_cases c3 : m1 < 0
    case pos => rw [if_pos c3] at h; simp at h
    rw [if_neg c3] at h
    have c3b : decide (m1 < 0) = false := decide_eq_false c3
    clear c3
    replace h := Option.bind_eq_some_iff.mp h
    obtain ⟨⟨m2, ml0, ml1⟩, hA7, h⟩ := h
    replace h := Option.bind_eq_some_iff.mp h
    obtain ⟨t1, hA8, h⟩ := h
    by_cases c4 : t1 < 0
    case pos => rw [if_pos c4] at h; simp at h
    rw [if_neg c4] at h
    have c4b : decide (t1 < 0) = false := decide_eq_false c4
    clear c4
    by_cases c5 : t1 = m2
    case neg => rw [if_neg c5] at h; simp at h
    subst c5
    clear h
    have HA1 := Aside0.mk hA1
    have HA2 := Aside0.mk hA2
    have HA3 := Aside0.mk hA3
    have HA4 := Aside0.mk hA4
    have HA5 := Aside0.mk hA5
    have HA6 := Aside0.mk hA6
    have HA7 := Aside0.mk hA7
    have HA8 := Aside0.mk hA8
    clear hA1 hA2 hA3 hA4 hA5 hA6 hA7 hA8
    have hq1 : (gc != gc) = false := bne_self_eq_false gc
    have hq2 : (t1 != t1) = false := bne_self_eq_false t1
    go_enter Try.func10, Try.ntmps10
    go_wp2_with (first | ((with_reducible refine gate_dst (N := 2) rfl ?_); refine box_event ?hg (N := 2) ?hd (cs := #[.slice A0_0 l0_0.length c0_0, .slice A0_1 l0_1.length c0_1]) (t := 25) ?hr ?_; (case hd => rfl); (case hg => rfl); (case hr => first | (go_simp; done) | (go_simp; rfl)); intro ga hg w5 hbox hb; have n0_ := Aside0.mk (below_step (by repeat (first | (with_reducible first | exact HB.out | apply below_alloc | apply pw_below_drewN | apply below_drew1) | exact HB.out)) hb); have n1_ := Aside0.mk hbox; have n2_ := Aside0.mk (by rw [hg]; exact (below_size (by repeat (first | (with_reducible first | exact HB.out | apply below_alloc | apply pw_below_drewN | apply below_drew1) | exact HB.out))) : w.heap.size ≤ ga); clear HB; have HB := n0_; have BKa := n1_; have GEa := n2_; clear n0_ n1_ n2_; clear hb hbox hg; have hcz5_a0 : w5.cell? ⟨ga, 0, none⟩ = some (.slice A0_0 l0_0.length c0_0) := (blk_cell BKa.out 0).trans rfl; have hfz5_a0 := blk_frozen BKa.out 0; have hcz5_a1 : w5.cell? ⟨ga, 1, none⟩ = some (.slice A0_1 l0_1.length c0_1) := (blk_cell BKa.out 1).trans rfl; have hfz5_a1 := blk_frozen BKa.out 1) |
      ((with_reducible refine gate_callee (f := 12) rfl ?_); refine goesL_ (some 18) rfl rfl Try.func12 (by kernel_rfl) rfl #[.agg #[.slice A0_0 l0_0.length c0_0, .slice A0_1 l0_1.length c0_1], .int .i64 1048576] rfl (by (try simp only [List.map_toArray, List.map_cons, List.map_nil]); first | done | rfl | (simp only [List.length_drop, List.length_take]; rfl)) ?_; (refine (laws_szTable.calls k _ _ l0_0 _ _ l0_1 1048576 t0 _ ?side1 ?side2 ?side3 ?side4 HA0.out).mono ?_); (case side1 => exact (Kd.C_below HR0_0.out (by repeat (first | (with_reducible first | exact HB.out | apply below_alloc | apply pw_below_drewN | apply below_drew1 | refine below_set ?_ GEa.out) | exact HB.out)))); (case side2 => exact HC0_0.out); (case side3 => exact (Kd.C_below HR0_1.out (by repeat (first | (with_reducible first | exact HB.out | apply below_alloc | apply pw_below_drewN | apply below_drew1 | refine below_set ?_ GEa.out) | exact HB.out)))); (case side4 => exact HC0_1.out); rintro e w7 ⟨rfl, hb⟩; refine ⟨_, rfl, ?_⟩; (try clear hcz5_a0); (try clear hfz5_a0); (try clear hcz5_a1); (try clear hfz5_a1); have n0_ := Aside0.mk (blk_below (g := ga) (o := (.cells #[.slice A0_0 l0_0.length c0_0, .slice A0_1 l0_1.length c0_1] 25 (0, 0))) (by (with_reducible repeat (first | refine blk_drewN ?_ _ | refine blk_drew ?_ | refine blk_alloc ?_ _)); exact BKa.out) hb); have n1_ := Aside0.mk (below_step (by repeat (first | (with_reducible first | exact HB.out | apply below_alloc | apply pw_below_drewN | apply below_drew1 | refine below_set ?_ GEa.out) | exact HB.out)) hb); clear BKa; clear HB; have BKa := n0_; have HB := n1_; clear n0_ n1_; clear hb; have hcz7_a0 : w7.cell? ⟨ga, 0, none⟩ = some (.slice A0_0 l0_0.length c0_0) := (blk_cell BKa.out 0).trans rfl; have hfz7_a0 := blk_frozen BKa.out 0; have hcz7_a1 : w7.cell? ⟨ga, 1, none⟩ = some (.slice A0_1 l0_1.length c0_1) := (blk_cell BKa.out 1).trans rfl; have hfz7_a1 := blk_frozen BKa.out 1) |
      ((with_reducible refine gate_callee (f := 14) rfl ?_); refine goesL_ (some 23) rfl rfl Try.func14 (by kernel_rfl) rfl #[.agg #[.slice A0_0 l0_0.length c0_0, .slice A0_1 l0_1.length c0_1]] rfl (by (try simp only [List.map_toArray, List.map_cons, List.map_nil]); first | done | rfl | (simp only [List.length_drop, List.length_take]; rfl)) ?_; (refine (laws_toTable.calls k _ _ l0_0 _ _ l0_1 yl0 yl1 _ ?side1 ?side2 ?side3 ?side4 HA1.out).mono ?_); (case side1 => exact (Kd.C_below HR0_0.out (by repeat (first | (with_reducible first | exact HB.out | apply below_alloc | apply pw_below_drewN | apply below_drew1 | refine below_set ?_ GEa.out) | exact HB.out)))); (case side2 => exact HC0_0.out); (case side3 => exact (Kd.C_below HR0_1.out (by repeat (first | (with_reducible first | exact HB.out | apply below_alloc | apply pw_below_drewN | apply below_drew1 | refine below_set ?_ GEa.out) | exact HB.out)))); (case side4 => exact HC0_1.out); rintro e w9 ⟨v0_, v1_, rfl, ho0, ho1, hb⟩; refine ⟨_, rfl, ?_⟩; obtain ⟨loy, hiy, hT, hs0⟩ : ∃ lo hi, laws_markTable.TB w9 w.heap.size lo hi v0_ v1_ yl0 yl1 ∧ (ga < lo ∨ hi ≤ ga) := ⟨_, _, laws_markTable.TB.new ho0 ho1 (below_size (by repeat (first | (with_reducible first | exact HB.out | apply below_alloc | apply pw_below_drewN | apply below_drew1 | refine below_set ?_ GEa.out) | exact HB.out))) hb, .inl (blk_lt (g := ga) (o := (.cells #[.slice A0_0 l0_0.length c0_0, .slice A0_1 l0_1.length c0_1] 25 (0, 0))) (by (with_reducible repeat (first | refine blk_drewN ?_ _ | refine blk_drew ?_ | refine blk_alloc ?_ _)); exact BKa.out))⟩; clear ho0 ho1; have SPy_a := Aside0.mk hs0; clear hs0; (try clear hcz7_a0); (try clear hfz7_a0); (try clear hcz7_a1); (try clear hfz7_a1); have n0_ := Aside0.mk (blk_below (g := ga) (o := (.cells #[.slice A0_0 l0_0.length c0_0, .slice A0_1 l0_1.length c0_1] 25 (0, 0))) (by (with_reducible repeat (first | refine blk_drewN ?_ _ | refine blk_drew ?_ | refine blk_alloc ?_ _)); exact BKa.out) hb); have n1_ := Aside0.mk (below_step (by repeat (first | (with_reducible first | exact HB.out | apply below_alloc | apply pw_below_drewN | apply below_drew1 | refine below_set ?_ GEa.out) | exact HB.out)) hb); clear BKa; clear HB; have BKa := n0_; have HB := n1_; clear n0_ n1_; have Hy := Aside0.mk hT; clear hT; obtain ⟨Ay0, cy0, Ay1, cy1, e1_, e2_, hc0_, hc1_⟩ := laws_markTable.TB.shape Hy.out; subst e1_ e2_; have HCy0 := Aside0.mk hc0_; have HCy1 := Aside0.mk hc1_; clear hc0_ hc1_; clear hb; have hcz9_a0 : w9.cell? ⟨ga, 0, none⟩ = some (.slice A0_0 l0_0.length c0_0) := (blk_cell BKa.out 0).trans rfl; have hfz9_a0 := blk_frozen BKa.out 0; have hcz9_a1 : w9.cell? ⟨ga, 1, none⟩ = some (.slice A0_1 l0_1.length c0_1) := (blk_cell BKa.out 1).trans rfl; have hfz9_a1 := blk_frozen BKa.out 1) |
      ((with_reducible refine gate_callee (f := 29) rfl ?_); refine goesL_ (some 25) rfl rfl Try.func29 (by kernel_rfl) rfl #[.agg #[.slice Ay0 yl0.length cy0, .slice Ay1 yl1.length cy1], .int .i64 a1] rfl (by (try simp only [List.map_toArray, List.map_cons, List.map_nil]); first | done | rfl | (simp only [List.length_drop, List.length_take]; rfl)) ?_; (refine (spec_WithRise.calls k _ _ yl0 _ _ yl1 a1 sl0 sl1 gc _ ?side1 ?side2 ?side3 ?side4 HA2.out).mono ?_); (case side1 => exact (laws_markTable.TB.c0 (show laws_markTable.TB _ w.heap.size loy hiy (.slice Ay0 yl0.length cy0) (.slice Ay1 yl1.length cy1) yl0 yl1 from (by (with_reducible repeat (first | apply laws_markTable.TB.drewN | apply laws_markTable.TB.drew | apply laws_markTable.TB.alloc)); exact Hy.out)))); (case side2 => exact HCy0.out); (case side3 => exact (laws_markTable.TB.c1 (show laws_markTable.TB _ w.heap.size loy hiy (.slice Ay0 yl0.length cy0) (.slice Ay1 yl1.length cy1) yl0 yl1 from (by (with_reducible repeat (first | apply laws_markTable.TB.drewN | apply laws_markTable.TB.drew | apply laws_markTable.TB.alloc)); exact Hy.out)))); (case side4 => exact HCy1.out); rintro e w11 ⟨v0_, v1_, rfl, ho0, ho1, hb⟩; refine ⟨_, rfl, ?_⟩; obtain ⟨los, his, hT, hs0⟩ : ∃ lo hi, laws_markTable.TB w11 w.heap.size lo hi v0_ v1_ sl0 sl1 ∧ (ga < lo ∨ hi ≤ ga) := ⟨_, _, laws_markTable.TB.new ho0 ho1 (below_size (by repeat (first | (with_reducible first | exact HB.out | apply below_alloc | apply pw_below_drewN | apply below_drew1 | refine below_set ?_ GEa.out) | exact HB.out))) hb, .inl (blk_lt (g := ga) (o := (.cells #[.slice A0_0 l0_0.length c0_0, .slice A0_1 l0_1.length c0_1] 25 (0, 0))) (by (with_reducible repeat (first | refine blk_drewN ?_ _ | refine blk_drew ?_ | refine blk_alloc ?_ _)); exact BKa.out))⟩; clear ho0 ho1; have SPs_a := Aside0.mk hs0; clear hs0; (try clear hcz9_a0); (try clear hfz9_a0); (try clear hcz9_a1); (try clear hfz9_a1); have n0_ := Aside0.mk (blk_below (g := ga) (o := (.cells #[.slice A0_0 l0_0.length c0_0, .slice A0_1 l0_1.length c0_1] 25 (0, 0))) (by (with_reducible repeat (first | refine blk_drewN ?_ _ | refine blk_drew ?_ | refine blk_alloc ?_ _)); exact BKa.out) hb); have n1_ := Aside0.mk (below_step (by repeat (first | (with_reducible first | exact HB.out | apply below_alloc | apply pw_below_drewN | apply below_drew1 | refine below_set ?_ GEa.out) | exact HB.out)) hb); clear BKa; clear HB; have BKa := n0_; have HB := n1_; clear n0_ n1_; have Hs := Aside0.mk hT; clear hT; obtain ⟨As0, cs0, As1, cs1, e1_, e2_, hc0_, hc1_⟩ := laws_markTable.TB.shape Hs.out; subst e1_ e2_; have HCs0 := Aside0.mk hc0_; have HCs1 := Aside0.mk hc1_; clear hc0_ hc1_; clear hb; have hcz11_a0 : w11.cell? ⟨ga, 0, none⟩ = some (.slice A0_0 l0_0.length c0_0) := (blk_cell BKa.out 0).trans rfl; have hfz11_a0 := blk_frozen BKa.out 0; have hcz11_a1 : w11.cell? ⟨ga, 1, none⟩ = some (.slice A0_1 l0_1.length c0_1) := (blk_cell BKa.out 1).trans rfl; have hfz11_a1 := blk_frozen BKa.out 1) |
      ((with_reducible refine gate_dst (N := 6) rfl ?_); refine box_event ?hg (N := 6) ?hd (cs := #[.slice none 0 0, .slice none 0 0]) (t := 28) ?hr ?_; (case hd => rfl); (case hg => rfl); (case hr => first | (go_simp; done) | (go_simp; rfl)); intro gb hg w13 hbox hb; (try clear hcz11_a0); (try clear hfz11_a0); (try clear hcz11_a1); (try clear hfz11_a1); have n0_ := Aside0.mk (laws_markTable.TB.below (show laws_markTable.TB _ w.heap.size los his (.slice As0 sl0.length cs0) (.slice As1 sl1.length cs1) sl0 sl1 from (by (with_reducible repeat (first | apply laws_markTable.TB.drewN | apply laws_markTable.TB.drew | apply laws_markTable.TB.alloc)); exact Hs.out)) hb); have n1_ := Aside0.mk (blk_below (g := ga) (o := (.cells #[.slice A0_0 l0_0.length c0_0, .slice A0_1 l0_1.length c0_1] 25 (0, 0))) (by (with_reducible repeat (first | refine blk_drewN ?_ _ | refine blk_drew ?_ | refine blk_alloc ?_ _)); exact BKa.out) hb); have n2_ := Aside0.mk (below_step (by repeat (first | (with_reducible first | exact HB.out | apply below_alloc | apply pw_below_drewN | apply below_drew1 | refine below_set ?_ GEa.out) | exact HB.out)) hb); have n3_ := Aside0.mk hbox; have n4_ := Aside0.mk (by rw [hg]; exact (below_size (by repeat (first | (with_reducible first | exact HB.out | apply below_alloc | apply pw_below_drewN | apply below_drew1 | refine below_set ?_ GEa.out) | exact HB.out))) : w.heap.size ≤ gb); have n5_ := Aside0.mk (by rw [hg]; exact Nat.ne_of_lt (blk_lt (g := ga) (o := (.cells #[.slice A0_0 l0_0.length c0_0, .slice A0_1 l0_1.length c0_1] 25 (0, 0))) (by (with_reducible repeat (first | refine blk_drewN ?_ _ | refine blk_drew ?_ | refine blk_alloc ?_ _)); exact BKa.out)) : ga ≠ gb); have n6_ := Aside0.mk (by rw [hg]; exact Nat.ne_of_gt (blk_lt (g := ga) (o := (.cells #[.slice A0_0 l0_0.length c0_0, .slice A0_1 l0_1.length c0_1] 25 (0, 0))) (by (with_reducible repeat (first | refine blk_drewN ?_ _ | refine blk_drew ?_ | refine blk_alloc ?_ _)); exact BKa.out)) : gb ≠ ga); have n7_ := Aside0.mk (by rw [hg]; exact .inr (show laws_markTable.TB _ _ _ _ _ _ _ _ from (show laws_markTable.TB _ w.heap.size los his (.slice As0 sl0.length cs0) (.slice As1 sl1.length cs1) sl0 sl1 from (by (with_reducible repeat (first | apply laws_markTable.TB.drewN | apply laws_markTable.TB.drew | apply laws_markTable.TB.alloc)); exact Hs.out))).2.2.2 : gb < los ∨ his ≤ gb); clear Hs; clear BKa; clear HB; have Hs := n0_; have BKa := n1_; have HB := n2_; have BKb := n3_; have GEb := n4_; have NBa_b := n5_; have NBb_a := n6_; have SPs_b := n7_; clear n0_ n1_ n2_ n3_ n4_ n5_ n6_ n7_; clear hb hbox hg; have hcz13_a0 : w13.cell? ⟨ga, 0, none⟩ = some (.slice A0_0 l0_0.length c0_0) := (blk_cell BKa.out 0).trans rfl; have hfz13_a0 := blk_frozen BKa.out 0; have hcz13_a1 : w13.cell? ⟨ga, 1, none⟩ = some (.slice A0_1 l0_1.length c0_1) := (blk_cell BKa.out 1).trans rfl; have hfz13_a1 := blk_frozen BKa.out 1; have hcz13_b0 : w13.cell? ⟨gb, 0, none⟩ = some (.slice none 0 0) := (blk_cell BKb.out 0).trans rfl; have hfz13_b0 := blk_frozen BKb.out 0; have hcz13_b1 : w13.cell? ⟨gb, 1, none⟩ = some (.slice none 0 0) := (blk_cell BKb.out 1).trans rfl; have hfz13_b1 := blk_frozen BKb.out 1; have hnb13_a_b := NBa_b.out; have hnb13_b_a := NBb_a.out) |
      ((with_reducible refine gate_callee (f := 14) rfl ?_); refine goesL_ (some 29) rfl rfl Try.func14 (by kernel_rfl) rfl #[.agg #[.slice A0_0 l0_0.length c0_0, .slice A0_1 l0_1.length c0_1]] rfl (by (try simp only [List.map_toArray, List.map_cons, List.map_nil]); first | done | rfl | (simp only [List.length_drop, List.length_take]; rfl)) ?_; (refine (laws_toTable.calls k _ _ l0_0 _ _ l0_1 yl0 yl1 _ ?side1 ?side2 ?side3 ?side4 HA1.out).mono ?_); (case side1 => exact (Kd.C_below HR0_0.out (by repeat (first | (with_reducible first | exact HB.out | apply below_alloc | apply pw_below_drewN | apply below_drew1 | refine below_set ?_ GEa.out | refine below_set ?_ GEb.out) | exact HB.out)))); (case side2 => exact HC0_0.out); (case side3 => exact (Kd.C_below HR0_1.out (by repeat (first | (with_reducible first | exact HB.out | apply below_alloc | apply pw_below_drewN | apply below_drew1 | refine below_set ?_ GEa.out | refine below_set ?_ GEb.out) | exact HB.out)))); (case side4 => exact HC0_1.out); rintro e w15 ⟨v0_, v1_, rfl, ho0, ho1, hb⟩; refine ⟨_, rfl, ?_⟩; obtain ⟨lox, hix, hT, hs0, hs1, ht0⟩ : ∃ lo hi, laws_markTable.TB w15 w.heap.size lo hi v0_ v1_ yl0 yl1 ∧ (ga < lo ∨ hi ≤ ga) ∧ (gb < lo ∨ hi ≤ gb) ∧ his ≤ lo := ⟨_, _, laws_markTable.TB.new ho0 ho1 (below_size (by repeat (first | (with_reducible first | exact HB.out | apply below_alloc | apply pw_below_drewN | apply below_drew1 | refine below_set ?_ GEa.out | refine below_set ?_ GEb.out) | exact HB.out))) hb, .inl (blk_lt (g := ga) (o := (.cells #[.slice A0_0 l0_0.length c0_0, .slice A0_1 l0_1.length c0_1] 25 (0, 0))) (by (with_reducible repeat (first | refine blk_drewN ?_ _ | refine blk_drew ?_ | refine blk_alloc ?_ _)); refine blk_far ?_ NBa_b.out _; (with_reducible repeat (first | refine blk_drewN ?_ _ | refine blk_drew ?_ | refine blk_alloc ?_ _)); refine blk_far ?_ NBa_b.out _; (with_reducible repeat (first | refine blk_drewN ?_ _ | refine blk_drew ?_ | refine blk_alloc ?_ _)); exact BKa.out)), .inl (blk_lt (g := gb) (o := (.cells #[.slice As0 sl0.length cs0, .slice As1 sl1.length cs1] 28 (0, 0))) (by (with_reducible repeat (first | refine blk_drewN ?_ _ | refine blk_drew ?_ | refine blk_alloc ?_ _)); refine blk_put (cs := #[.slice As0 sl0.length cs0, .slice none 0 0]) ?_ 1 _ rfl; (with_reducible repeat (first | refine blk_drewN ?_ _ | refine blk_drew ?_ | refine blk_alloc ?_ _)); refine blk_put (cs := #[.slice none 0 0, .slice none 0 0]) ?_ 0 _ rfl; (with_reducible repeat (first | refine blk_drewN ?_ _ | refine blk_drew ?_ | refine blk_alloc ?_ _)); exact BKb.out)), (show laws_markTable.TB _ w.heap.size los his (.slice As0 sl0.length cs0) (.slice As1 sl1.length cs1) sl0 sl1 from (by (with_reducible repeat (first | apply laws_markTable.TB.drewN | apply laws_markTable.TB.drew | apply laws_markTable.TB.alloc)); refine laws_markTable.TB.far (g := gb) ?_ (by have h1_ := SPs_b.out; omega) _; (with_reducible repeat (first | apply laws_markTable.TB.drewN | apply laws_markTable.TB.drew | apply laws_markTable.TB.alloc)); refine laws_markTable.TB.far (g := gb) ?_ (by have h1_ := SPs_b.out; omega) _; (with_reducible repeat (first | apply laws_markTable.TB.drewN | apply laws_markTable.TB.drew | apply laws_markTable.TB.alloc)); exact Hs.out)).2.2.2⟩; clear ho0 ho1; have SPx_a := Aside0.mk hs0; have SPx_b := Aside0.mk hs1; have SOs_x := Aside0.mk ht0; clear hs0 hs1 ht0; (try clear hcz13_a0); (try clear hfz13_a0); (try clear hcz13_a1); (try clear hfz13_a1); (try clear hcz13_b0); (try clear hfz13_b0); (try clear hcz13_b1); (try clear hfz13_b1); (try clear hnb13_a_b); (try clear hnb13_b_a); have n0_ := Aside0.mk (laws_markTable.TB.below (show laws_markTable.TB _ w.heap.size los his (.slice As0 sl0.length cs0) (.slice As1 sl1.length cs1) sl0 sl1 from (by (with_reducible repeat (first | apply laws_markTable.TB.drewN | apply laws_markTable.TB.drew | apply laws_markTable.TB.alloc)); refine laws_markTable.TB.far (g := gb) ?_ (by have h1_ := SPs_b.out; omega) _; (with_reducible repeat (first | apply laws_markTable.TB.drewN | apply laws_markTable.TB.drew | apply laws_markTable.TB.alloc)); refine laws_markTable.TB.far (g := gb) ?_ (by have h1_ := SPs_b.out; omega) _; (with_reducible repeat (first | apply laws_markTable.TB.drewN | apply laws_markTable.TB.drew | apply laws_markTable.TB.alloc)); exact Hs.out)) hb); have n1_ := Aside0.mk (blk_below (g := ga) (o := (.cells #[.slice A0_0 l0_0.length c0_0, .slice A0_1 l0_1.length c0_1] 25 (0, 0))) (by (with_reducible repeat (first | refine blk_drewN ?_ _ | refine blk_drew ?_ | refine blk_alloc ?_ _)); refine blk_far ?_ NBa_b.out _; (with_reducible repeat (first | refine blk_drewN ?_ _ | refine blk_drew ?_ | refine blk_alloc ?_ _)); refine blk_far ?_ NBa_b.out _; (with_reducible repeat (first | refine blk_drewN ?_ _ | refine blk_drew ?_ | refine blk_alloc ?_ _)); exact BKa.out) hb); have n2_ := Aside0.mk (blk_below (g := gb) (o := (.cells #[.slice As0 sl0.length cs0, .slice As1 sl1.length cs1] 28 (0, 0))) (by (with_reducible repeat (first | refine blk_drewN ?_ _ | refine blk_drew ?_ | refine blk_alloc ?_ _)); refine blk_put (cs := #[.slice As0 sl0.length cs0, .slice none 0 0]) ?_ 1 _ rfl; (with_reducible repeat (first | refine blk_drewN ?_ _ | refine blk_drew ?_ | refine blk_alloc ?_ _)); refine blk_put (cs := #[.slice none 0 0, .slice none 0 0]) ?_ 0 _ rfl; (with_reducible repeat (first | refine blk_drewN ?_ _ | refine blk_drew ?_ | refine blk_alloc ?_ _)); exact BKb.out) hb); have n3_ := Aside0.mk (below_step (by repeat (first | (with_reducible first | exact HB.out | apply below_alloc | apply pw_below_drewN | apply below_drew1 | refine below_set ?_ GEa.out | refine below_set ?_ GEb.out) | exact HB.out)) hb); clear Hs; clear BKa; clear BKb; clear HB; have Hs := n0_; have BKa := n1_; have BKb := n2_; have HB := n3_; clear n0_ n1_ n2_ n3_; have Hx := Aside0.mk hT; clear hT; obtain ⟨Ax0, cx0, Ax1, cx1, e1_, e2_, hc0_, hc1_⟩ := laws_markTable.TB.shape Hx.out; subst e1_ e2_; have HCx0 := Aside0.mk hc0_; have HCx1 := Aside0.mk hc1_; clear hc0_ hc1_; clear hb; have hcz15_a0 : w15.cell? ⟨ga, 0, none⟩ = some (.slice A0_0 l0_0.length c0_0) := (blk_cell BKa.out 0).trans rfl; have hfz15_a0 := blk_frozen BKa.out 0; have hcz15_a1 : w15.cell? ⟨ga, 1, none⟩ = some (.slice A0_1 l0_1.length c0_1) := (blk_cell BKa.out 1).trans rfl; have hfz15_a1 := blk_frozen BKa.out 1; have hcz15_b0 : w15.cell? ⟨gb, 0, none⟩ = some (.slice As0 sl0.length cs0) := (blk_cell BKb.out 0).trans rfl; have hfz15_b0 := blk_frozen BKb.out 0; have hcz15_b1 : w15.cell? ⟨gb, 1, none⟩ = some (.slice As1 sl1.length cs1) := (blk_cell BKb.out 1).trans rfl; have hfz15_b1 := blk_frozen BKb.out 1; have hnb15_a_b := NBa_b.out; have hnb15_b_a := NBb_a.out) |
      ((with_reducible refine gate_dst (N := 8) rfl ?_); refine box_event ?hg (N := 8) ?hd (cs := #[.slice none 0 0, .slice none 0 0]) (t := 28) ?hr ?_; (case hd => rfl); (case hg => rfl); (case hr => first | (go_simp; done) | (go_simp; rfl)); intro gd hg w17 hbox hb; (try clear hcz15_a0); (try clear hfz15_a0); (try clear hcz15_a1); (try clear hfz15_a1); (try clear hcz15_b0); (try clear hfz15_b0); (try clear hcz15_b1); (try clear hfz15_b1); (try clear hnb15_a_b); (try clear hnb15_b_a); have n0_ := Aside0.mk (laws_markTable.TB.below (show laws_markTable.TB _ w.heap.size los his (.slice As0 sl0.length cs0) (.slice As1 sl1.length cs1) sl0 sl1 from (by (with_reducible repeat (first | apply laws_markTable.TB.drewN | apply laws_markTable.TB.drew | apply laws_markTable.TB.alloc)); exact Hs.out)) hb); have n1_ := Aside0.mk (laws_markTable.TB.below (show laws_markTable.TB _ w.heap.size lox hix (.slice Ax0 yl0.length cx0) (.slice Ax1 yl1.length cx1) yl0 yl1 from (by (with_reducible repeat (first | apply laws_markTable.TB.drewN | apply laws_markTable.TB.drew | apply laws_markTable.TB.alloc)); exact Hx.out)) hb); have n2_ := Aside0.mk (blk_below (g := ga) (o := (.cells #[.slice A0_0 l0_0.length c0_0, .slice A0_1 l0_1.length c0_1] 25 (0, 0))) (by (with_reducible repeat (first | refine blk_drewN ?_ _ | refine blk_drew ?_ | refine blk_alloc ?_ _)); exact BKa.out) hb); have n3_ := Aside0.mk (blk_below (g := gb) (o := (.cells #[.slice As0 sl0.length cs0, .slice As1 sl1.length cs1] 28 (0, 0))) (by (with_reducible repeat (first | refine blk_drewN ?_ _ | refine blk_drew ?_ | refine blk_alloc ?_ _)); exact BKb.out) hb); have n4_ := Aside0.mk (below_step (by repeat (first | (with_reducible first | exact HB.out | apply below_alloc | apply pw_below_drewN | apply below_drew1 | refine below_set ?_ GEa.out | refine below_set ?_ GEb.out) | exact HB.out)) hb); have n5_ := Aside0.mk hbox; have n6_ := Aside0.mk (by rw [hg]; exact (below_size (by repeat (first | (with_reducible first | exact HB.out | apply below_alloc | apply pw_below_drewN | apply below_drew1 | refine below_set ?_ GEa.out | refine below_set ?_ GEb.out) | exact HB.out))) : w.heap.size ≤ gd); have n7_ := Aside0.mk (by rw [hg]; exact Nat.ne_of_lt (blk_lt (g := ga) (o := (.cells #[.slice A0_0 l0_0.length c0_0, .slice A0_1 l0_1.length c0_1] 25 (0, 0))) (by (with_reducible repeat (first | refine blk_drewN ?_ _ | refine blk_drew ?_ | refine blk_alloc ?_ _)); exact BKa.out)) : ga ≠ gd); have n8_ := Aside0.mk (by rw [hg]; exact Nat.ne_of_gt (blk_lt (g := ga) (o := (.cells #[.slice A0_0 l0_0.length c0_0, .slice A0_1 l0_1.length c0_1] 25 (0, 0))) (by (with_reducible repeat (first | refine blk_drewN ?_ _ | refine blk_drew ?_ | refine blk_alloc ?_ _)); exact BKa.out)) : gd ≠ ga); have n9_ := Aside0.mk (by rw [hg]; exact Nat.ne_of_lt (blk_lt (g := gb) (o := (.cells #[.slice As0 sl0.length cs0, .slice As1 sl1.length cs1] 28 (0, 0))) (by (with_reducible repeat (first | refine blk_drewN ?_ _ | refine blk_drew ?_ | refine blk_alloc ?_ _)); exact BKb.out)) : gb ≠ gd); have n10_ := Aside0.mk (by rw [hg]; exact Nat.ne_of_gt (blk_lt (g := gb) (o := (.cells #[.slice As0 sl0.length cs0, .slice As1 sl1.length cs1] 28 (0, 0))) (by (with_reducible repeat (first | refine blk_drewN ?_ _ | refine blk_drew ?_ | refine blk_alloc ?_ _)); exact BKb.out)) : gd ≠ gb); have n11_ := Aside0.mk (by rw [hg]; exact .inr (show laws_markTable.TB _ _ _ _ _ _ _ _ from (show laws_markTable.TB _ w.heap.size los his (.slice As0 sl0.length cs0) (.slice As1 sl1.length cs1) sl0 sl1 from (by (with_reducible repeat (first | apply laws_markTable.TB.drewN | apply laws_markTable.TB.drew | apply laws_markTable.TB.alloc)); exact Hs.out))).2.2.2 : gd < los ∨ his ≤ gd); have n12_ := Aside0.mk (by rw [hg]; exact .inr (show laws_markTable.TB _ _ _ _ _ _ _ _ from (show laws_markTable.TB _ w.heap.size lox hix (.slice Ax0 yl0.length cx0) (.slice Ax1 yl1.length cx1) yl0 yl1 from (by (with_reducible repeat (first | apply laws_markTable.TB.drewN | apply laws_markTable.TB.drew | apply laws_markTable.TB.alloc)); exact Hx.out))).2.2.2 : gd < lox ∨ hix ≤ gd); clear Hs; clear Hx; clear BKa; clear BKb; clear HB; have Hs := n0_; have Hx := n1_; have BKa := n2_; have BKb := n3_; have HB := n4_; have BKd := n5_; have GEd := n6_; have NBa_d := n7_; have NBd_a := n8_; have NBb_d := n9_; have NBd_b := n10_; have SPs_d := n11_; have SPx_d := n12_; clear n0_ n1_ n2_ n3_ n4_ n5_ n6_ n7_ n8_ n9_ n10_ n11_ n12_; clear hb hbox hg; have hcz17_a0 : w17.cell? ⟨ga, 0, none⟩ = some (.slice A0_0 l0_0.length c0_0) := (blk_cell BKa.out 0).trans rfl; have hfz17_a0 := blk_frozen BKa.out 0; have hcz17_a1 : w17.cell? ⟨ga, 1, none⟩ = some (.slice A0_1 l0_1.length c0_1) := (blk_cell BKa.out 1).trans rfl; have hfz17_a1 := blk_frozen BKa.out 1; have hcz17_b0 : w17.cell? ⟨gb, 0, none⟩ = some (.slice As0 sl0.length cs0) := (blk_cell BKb.out 0).trans rfl; have hfz17_b0 := blk_frozen BKb.out 0; have hcz17_b1 : w17.cell? ⟨gb, 1, none⟩ = some (.slice As1 sl1.length cs1) := (blk_cell BKb.out 1).trans rfl; have hfz17_b1 := blk_frozen BKb.out 1; have hcz17_d0 : w17.cell? ⟨gd, 0, none⟩ = some (.slice none 0 0) := (blk_cell BKd.out 0).trans rfl; have hfz17_d0 := blk_frozen BKd.out 0; have hcz17_d1 : w17.cell? ⟨gd, 1, none⟩ = some (.slice none 0 0) := (blk_cell BKd.out 1).trans rfl; have hfz17_d1 := blk_frozen BKd.out 1; have hnb17_a_b := NBa_b.out; have hnb17_a_d := NBa_d.out; have hnb17_b_a := NBb_a.out; have hnb17_b_d := NBb_d.out; have hnb17_d_a := NBd_a.out; have hnb17_d_b := NBd_b.out) |
      ((with_reducible refine gate_callee (f := 30) rfl ?_); refine goesL_ (some 33) rfl rfl Try.func30 (by kernel_rfl) rfl #[.agg #[.slice Ax0 yl0.length cx0, .slice Ax1 yl1.length cx1], .int .i64 a1] rfl (by (try simp only [List.map_toArray, List.map_cons, List.map_nil]); first | done | rfl | (simp only [List.length_drop, List.length_take]; rfl)) ?_; (refine (impl_WithRise.calls k _ _ yl0 _ _ yl1 a1 gl0 gl1 gc _ ?side1 ?side2 ?side3 ?side4 HA3.out).mono ?_); (case side1 => exact (laws_markTable.TB.c0 (show laws_markTable.TB _ w.heap.size lox hix (.slice Ax0 yl0.length cx0) (.slice Ax1 yl1.length cx1) yl0 yl1 from (by (with_reducible repeat (first | apply laws_markTable.TB.drewN | apply laws_markTable.TB.drew | apply laws_markTable.TB.alloc)); refine laws_markTable.TB.far (g := gd) ?_ (by have h1_ := SPx_d.out; omega) _; (with_reducible repeat (first | apply laws_markTable.TB.drewN | apply laws_markTable.TB.drew | apply laws_markTable.TB.alloc)); refine laws_markTable.TB.far (g := gd) ?_ (by have h1_ := SPx_d.out; omega) _; (with_reducible repeat (first | apply laws_markTable.TB.drewN | apply laws_markTable.TB.drew | apply laws_markTable.TB.alloc)); exact Hx.out)))); (case side2 => exact HCx0.out); (case side3 => exact (laws_markTable.TB.c1 (show laws_markTable.TB _ w.heap.size lox hix (.slice Ax0 yl0.length cx0) (.slice Ax1 yl1.length cx1) yl0 yl1 from (by (with_reducible repeat (first | apply laws_markTable.TB.drewN | apply laws_markTable.TB.drew | apply laws_markTable.TB.alloc)); refine laws_markTable.TB.far (g := gd) ?_ (by have h1_ := SPx_d.out; omega) _; (with_reducible repeat (first | apply laws_markTable.TB.drewN | apply laws_markTable.TB.drew | apply laws_markTable.TB.alloc)); refine laws_markTable.TB.far (g := gd) ?_ (by have h1_ := SPx_d.out; omega) _; (with_reducible repeat (first | apply laws_markTable.TB.drewN | apply laws_markTable.TB.drew | apply laws_markTable.TB.alloc)); exact Hx.out)))); (case side4 => exact HCx1.out); rintro e w19 ⟨v0_, v1_, rfl, ho0, ho1, hb⟩; refine ⟨_, rfl, ?_⟩; obtain ⟨log, hig, hT, hs0, hs1, hs2, ht0, ht1⟩ : ∃ lo hi, laws_markTable.TB w19 w.heap.size lo hi v0_ v1_ gl0 gl1 ∧ (ga < lo ∨ hi ≤ ga) ∧ (gb < lo ∨ hi ≤ gb) ∧ (gd < lo ∨ hi ≤ gd) ∧ his ≤ lo ∧ hix ≤ lo := ⟨_, _, laws_markTable.TB.new ho0 ho1 (below_size (by repeat (first | (with_reducible first | exact HB.out | apply below_alloc | apply pw_below_drewN | apply below_drew1 | refine below_set ?_ GEa.out | refine below_set ?_ GEb.out | refine below_set ?_ GEd.out) | exact HB.out))) hb, .inl (blk_lt (g := ga) (o := (.cells #[.slice A0_0 l0_0.length c0_0, .slice A0_1 l0_1.length c0_1] 25 (0, 0))) (by (with_reducible repeat (first | refine blk_drewN ?_ _ | refine blk_drew ?_ | refine blk_alloc ?_ _)); refine blk_far ?_ NBa_d.out _; (with_reducible repeat (first | refine blk_drewN ?_ _ | refine blk_drew ?_ | refine blk_alloc ?_ _)); refine blk_far ?_ NBa_d.out _; (with_reducible repeat (first | refine blk_drewN ?_ _ | refine blk_drew ?_ | refine blk_alloc ?_ _)); exact BKa.out)), .inl (blk_lt (g := gb) (o := (.cells #[.slice As0 sl0.length cs0, .slice As1 sl1.length cs1] 28 (0, 0))) (by (with_reducible repeat (first | refine blk_drewN ?_ _ | refine blk_drew ?_ | refine blk_alloc ?_ _)); refine blk_far ?_ NBb_d.out _; (with_reducible repeat (first | refine blk_drewN ?_ _ | refine blk_drew ?_ | refine blk_alloc ?_ _)); refine blk_far ?_ NBb_d.out _; (with_reducible repeat (first | refine blk_drewN ?_ _ | refine blk_drew ?_ | refine blk_alloc ?_ _)); exact BKb.out)), .inl (blk_lt (g := gd) (o := (.cells #[.slice Ax0 yl0.length cx0, .slice Ax1 yl1.length cx1] 28 (0, 0))) (by (with_reducible repeat (first | refine blk_drewN ?_ _ | refine blk_drew ?_ | refine blk_alloc ?_ _)); refine blk_put (cs := #[.slice Ax0 yl0.length cx0, .slice none 0 0]) ?_ 1 _ rfl; (with_reducible repeat (first | refine blk_drewN ?_ _ | refine blk_drew ?_ | refine blk_alloc ?_ _)); refine blk_put (cs := #[.slice none 0 0, .slice none 0 0]) ?_ 0 _ rfl; (with_reducible repeat (first | refine blk_drewN ?_ _ | refine blk_drew ?_ | refine blk_alloc ?_ _)); exact BKd.out)), (show laws_markTable.TB _ w.heap.size los his (.slice As0 sl0.length cs0) (.slice As1 sl1.length cs1) sl0 sl1 from (by (with_reducible repeat (first | apply laws_markTable.TB.drewN | apply laws_markTable.TB.drew | apply laws_markTable.TB.alloc)); refine laws_markTable.TB.far (g := gd) ?_ (by have h1_ := SPs_d.out; omega) _; (with_reducible repeat (first | apply laws_markTable.TB.drewN | apply laws_markTable.TB.drew | apply laws_markTable.TB.alloc)); refine laws_markTable.TB.far (g := gd) ?_ (by have h1_ := SPs_d.out; omega) _; (with_reducible repeat (first | apply laws_markTable.TB.drewN | apply laws_markTable.TB.drew | apply laws_markTable.TB.alloc)); exact Hs.out)).2.2.2, (show laws_markTable.TB _ w.heap.size lox hix (.slice Ax0 yl0.length cx0) (.slice Ax1 yl1.length cx1) yl0 yl1 from (by (with_reducible repeat (first | apply laws_markTable.TB.drewN | apply laws_markTable.TB.drew | apply laws_markTable.TB.alloc)); refine laws_markTable.TB.far (g := gd) ?_ (by have h1_ := SPx_d.out; omega) _; (with_reducible repeat (first | apply laws_markTable.TB.drewN | apply laws_markTable.TB.drew | apply laws_markTable.TB.alloc)); refine laws_markTable.TB.far (g := gd) ?_ (by have h1_ := SPx_d.out; omega) _; (with_reducible repeat (first | apply laws_markTable.TB.drewN | apply laws_markTable.TB.drew | apply laws_markTable.TB.alloc)); exact Hx.out)).2.2.2⟩; clear ho0 ho1; have SPg_a := Aside0.mk hs0; have SPg_b := Aside0.mk hs1; have SPg_d := Aside0.mk hs2; have SOs_g := Aside0.mk ht0; have SOx_g := Aside0.mk ht1; clear hs0 hs1 hs2 ht0 ht1; (try clear hcz17_a0); (try clear hfz17_a0); (try clear hcz17_a1); (try clear hfz17_a1); (try clear hcz17_b0); (try clear hfz17_b0); (try clear hcz17_b1); (try clear hfz17_b1); (try clear hcz17_d0); (try clear hfz17_d0); (try clear hcz17_d1); (try clear hfz17_d1); (try clear hnb17_a_b); (try clear hnb17_a_d); (try clear hnb17_b_a); (try clear hnb17_b_d); (try clear hnb17_d_a); (try clear hnb17_d_b); have n0_ := Aside0.mk (laws_markTable.TB.below (show laws_markTable.TB _ w.heap.size los his (.slice As0 sl0.length cs0) (.slice As1 sl1.length cs1) sl0 sl1 from (by (with_reducible repeat (first | apply laws_markTable.TB.drewN | apply laws_markTable.TB.drew | apply laws_markTable.TB.alloc)); refine laws_markTable.TB.far (g := gd) ?_ (by have h1_ := SPs_d.out; omega) _; (with_reducible repeat (first | apply laws_markTable.TB.drewN | apply laws_markTable.TB.drew | apply laws_markTable.TB.alloc)); refine laws_markTable.TB.far (g := gd) ?_ (by have h1_ := SPs_d.out; omega) _; (with_reducible repeat (first | apply laws_markTable.TB.drewN | apply laws_markTable.TB.drew | apply laws_markTable.TB.alloc)); exact Hs.out)) hb); have n1_ := Aside0.mk (laws_markTable.TB.below (show laws_markTable.TB _ w.heap.size lox hix (.slice Ax0 yl0.length cx0) (.slice Ax1 yl1.length cx1) yl0 yl1 from (by (with_reducible repeat (first | apply laws_markTable.TB.drewN | apply laws_markTable.TB.drew | apply laws_markTable.TB.alloc)); refine laws_markTable.TB.far (g := gd) ?_ (by have h1_ := SPx_d.out; omega) _; (with_reducible repeat (first | apply laws_markTable.TB.drewN | apply laws_markTable.TB.drew | apply laws_markTable.TB.alloc)); refine laws_markTable.TB.far (g := gd) ?_ (by have h1_ := SPx_d.out; omega) _; (with_reducible repeat (first | apply laws_markTable.TB.drewN | apply laws_markTable.TB.drew | apply laws_markTable.TB.alloc)); exact Hx.out)) hb); have n2_ := Aside0.mk (blk_below (g := ga) (o := (.cells #[.slice A0_0 l0_0.length c0_0, .slice A0_1 l0_1.length c0_1] 25 (0, 0))) (by (with_reducible repeat (first | refine blk_drewN ?_ _ | refine blk_drew ?_ | refine blk_alloc ?_ _)); refine blk_far ?_ NBa_d.out _; (with_reducible repeat (first | refine blk_drewN ?_ _ | refine blk_drew ?_ | refine blk_alloc ?_ _)); refine blk_far ?_ NBa_d.out _; (with_reducible repeat (first | refine blk_drewN ?_ _ | refine blk_drew ?_ | refine blk_alloc ?_ _)); exact BKa.out) hb); have n3_ := Aside0.mk (blk_below (g := gb) (o := (.cells #[.slice As0 sl0.length cs0, .slice As1 sl1.length cs1] 28 (0, 0))) (by (with_reducible repeat (first | refine blk_drewN ?_ _ | refine blk_drew ?_ | refine blk_alloc ?_ _)); refine blk_far ?_ NBb_d.out _; (with_reducible repeat (first | refine blk_drewN ?_ _ | refine blk_drew ?_ | refine blk_alloc ?_ _)); refine blk_far ?_ NBb_d.out _; (with_reducible repeat (first | refine blk_drewN ?_ _ | refine blk_drew ?_ | refine blk_alloc ?_ _)); exact BKb.out) hb); have n4_ := Aside0.mk (blk_below (g := gd) (o := (.cells #[.slice Ax0 yl0.length cx0, .slice Ax1 yl1.length cx1] 28 (0, 0))) (by (with_reducible repeat (first | refine blk_drewN ?_ _ | refine blk_drew ?_ | refine blk_alloc ?_ _)); refine blk_put (cs := #[.slice Ax0 yl0.length cx0, .slice none 0 0]) ?_ 1 _ rfl; (with_reducible repeat (first | refine blk_drewN ?_ _ | refine blk_drew ?_ | refine blk_alloc ?_ _)); refine blk_put (cs := #[.slice none 0 0, .slice none 0 0]) ?_ 0 _ rfl; (with_reducible repeat (first | refine blk_drewN ?_ _ | refine blk_drew ?_ | refine blk_alloc ?_ _)); exact BKd.out) hb); have n5_ := Aside0.mk (below_step (by repeat (first | (with_reducible first | exact HB.out | apply below_alloc | apply pw_below_drewN | apply below_drew1 | refine below_set ?_ GEa.out | refine below_set ?_ GEb.out | refine below_set ?_ GEd.out) | exact HB.out)) hb); clear Hs; clear Hx; clear BKa; clear BKb; clear BKd; clear HB; have Hs := n0_; have Hx := n1_; have BKa := n2_; have BKb := n3_; have BKd := n4_; have HB := n5_; clear n0_ n1_ n2_ n3_ n4_ n5_; have Hg := Aside0.mk hT; clear hT; obtain ⟨Ag0, cg0, Ag1, cg1, e1_, e2_, hc0_, hc1_⟩ := laws_markTable.TB.shape Hg.out; subst e1_ e2_; have HCg0 := Aside0.mk hc0_; have HCg1 := Aside0.mk hc1_; clear hc0_ hc1_; clear hb; have hcz19_a0 : w19.cell? ⟨ga, 0, none⟩ = some (.slice A0_0 l0_0.length c0_0) := (blk_cell BKa.out 0).trans rfl; have hfz19_a0 := blk_frozen BKa.out 0; have hcz19_a1 : w19.cell? ⟨ga, 1, none⟩ = some (.slice A0_1 l0_1.length c0_1) := (blk_cell BKa.out 1).trans rfl; have hfz19_a1 := blk_frozen BKa.out 1; have hcz19_b0 : w19.cell? ⟨gb, 0, none⟩ = some (.slice As0 sl0.length cs0) := (blk_cell BKb.out 0).trans rfl; have hfz19_b0 := blk_frozen BKb.out 0; have hcz19_b1 : w19.cell? ⟨gb, 1, none⟩ = some (.slice As1 sl1.length cs1) := (blk_cell BKb.out 1).trans rfl; have hfz19_b1 := blk_frozen BKb.out 1; have hcz19_d0 : w19.cell? ⟨gd, 0, none⟩ = some (.slice Ax0 yl0.length cx0) := (blk_cell BKd.out 0).trans rfl; have hfz19_d0 := blk_frozen BKd.out 0; have hcz19_d1 : w19.cell? ⟨gd, 1, none⟩ = some (.slice Ax1 yl1.length cx1) := (blk_cell BKd.out 1).trans rfl; have hfz19_d1 := blk_frozen BKd.out 1; have hnb19_a_b := NBa_b.out; have hnb19_a_d := NBa_d.out; have hnb19_b_a := NBb_a.out; have hnb19_b_d := NBb_d.out; have hnb19_d_a := NBd_a.out; have hnb19_d_b := NBd_b.out) |
      ((with_reducible refine gate_dst (N := 9) rfl ?_); refine box_event ?hg (N := 9) ?hd (cs := #[.slice none 0 0, .slice none 0 0]) (t := 28) ?hr ?_; (case hd => rfl); (case hg => rfl); (case hr => first | (go_simp; done) | (go_simp; rfl)); intro ge hg w21 hbox hb; (try clear hcz19_a0); (try clear hfz19_a0); (try clear hcz19_a1); (try clear hfz19_a1); (try clear hcz19_b0); (try clear hfz19_b0); (try clear hcz19_b1); (try clear hfz19_b1); (try clear hcz19_d0); (try clear hfz19_d0); (try clear hcz19_d1); (try clear hfz19_d1); (try clear hnb19_a_b); (try clear hnb19_a_d); (try clear hnb19_b_a); (try clear hnb19_b_d); (try clear hnb19_d_a); (try clear hnb19_d_b); have n0_ := Aside0.mk (laws_markTable.TB.below (show laws_markTable.TB _ w.heap.size los his (.slice As0 sl0.length cs0) (.slice As1 sl1.length cs1) sl0 sl1 from (by (with_reducible repeat (first | apply laws_markTable.TB.drewN | apply laws_markTable.TB.drew | apply laws_markTable.TB.alloc)); exact Hs.out)) hb); have n1_ := Aside0.mk (laws_markTable.TB.below (show laws_markTable.TB _ w.heap.size lox hix (.slice Ax0 yl0.length cx0) (.slice Ax1 yl1.length cx1) yl0 yl1 from (by (with_reducible repeat (first | apply laws_markTable.TB.drewN | apply laws_markTable.TB.drew | apply laws_markTable.TB.alloc)); exact Hx.out)) hb); have n2_ := Aside0.mk (laws_markTable.TB.below (show laws_markTable.TB _ w.heap.size log hig (.slice Ag0 gl0.length cg0) (.slice Ag1 gl1.length cg1) gl0 gl1 from (by (with_reducible repeat (first | apply laws_markTable.TB.drewN | apply laws_markTable.TB.drew | apply laws_markTable.TB.alloc)); exact Hg.out)) hb); have n3_ := Aside0.mk (blk_below (g := ga) (o := (.cells #[.slice A0_0 l0_0.length c0_0, .slice A0_1 l0_1.length c0_1] 25 (0, 0))) (by (with_reducible repeat (first | refine blk_drewN ?_ _ | refine blk_drew ?_ | refine blk_alloc ?_ _)); exact BKa.out) hb); have n4_ := Aside0.mk (blk_below (g := gb) (o := (.cells #[.slice As0 sl0.length cs0, .slice As1 sl1.length cs1] 28 (0, 0))) (by (with_reducible repeat (first | refine blk_drewN ?_ _ | refine blk_drew ?_ | refine blk_alloc ?_ _)); exact BKb.out) hb); have n5_ := Aside0.mk (blk_below (g := gd) (o := (.cells #[.slice Ax0 yl0.length cx0, .slice Ax1 yl1.length cx1] 28 (0, 0))) (by (with_reducible repeat (first | refine blk_drewN ?_ _ | refine blk_drew ?_ | refine blk_alloc ?_ _)); exact BKd.out) hb); have n6_ := Aside0.mk (below_step (by repeat (first | (with_reducible first | exact HB.out | apply below_alloc | apply pw_below_drewN | apply below_drew1 | refine below_set ?_ GEa.out | refine below_set ?_ GEb.out | refine below_set ?_ GEd.out) | exact HB.out)) hb); have n7_ := Aside0.mk hbox; have n8_ := Aside0.mk (by rw [hg]; exact (below_size (by repeat (first | (with_reducible first | exact HB.out | apply below_alloc | apply pw_below_drewN | apply below_drew1 | refine below_set ?_ GEa.out | refine below_set ?_ GEb.out | refine below_set ?_ GEd.out) | exact HB.out))) : w.heap.size ≤ ge); have n9_ := Aside0.mk (by rw [hg]; exact Nat.ne_of_lt (blk_lt (g := ga) (o := (.cells #[.slice A0_0 l0_0.length c0_0, .slice A0_1 l0_1.length c0_1] 25 (0, 0))) (by (with_reducible repeat (first | refine blk_drewN ?_ _ | refine blk_drew ?_ | refine blk_alloc ?_ _)); exact BKa.out)) : ga ≠ ge); have n10_ := Aside0.mk (by rw [hg]; exact Nat.ne_of_gt (blk_lt (g := ga) (o := (.cells #[.slice A0_0 l0_0.length c0_0, .slice A0_1 l0_1.length c0_1] 25 (0, 0))) (by (with_reducible repeat (first | refine blk_drewN ?_ _ | refine blk_drew ?_ | refine blk_alloc ?_ _)); exact BKa.out)) : ge ≠ ga); have n11_ := Aside0.mk (by rw [hg]; exact Nat.ne_of_lt (blk_lt (g := gb) (o := (.cells #[.slice As0 sl0.length cs0, .slice As1 sl1.length cs1] 28 (0, 0))) (by (with_reducible repeat (first | refine blk_drewN ?_ _ | refine blk_drew ?_ | refine blk_alloc ?_ _)); exact BKb.out)) : gb ≠ ge); have n12_ := Aside0.mk (by rw [hg]; exact Nat.ne_of_gt (blk_lt (g := gb) (o := (.cells #[.slice As0 sl0.length cs0, .slice As1 sl1.length cs1] 28 (0, 0))) (by (with_reducible repeat (first | refine blk_drewN ?_ _ | refine blk_drew ?_ | refine blk_alloc ?_ _)); exact BKb.out)) : ge ≠ gb); have n13_ := Aside0.mk (by rw [hg]; exact Nat.ne_of_lt (blk_lt (g := gd) (o := (.cells #[.slice Ax0 yl0.length cx0, .slice Ax1 yl1.length cx1] 28 (0, 0))) (by (with_reducible repeat (first | refine blk_drewN ?_ _ | refine blk_drew ?_ | refine blk_alloc ?_ _)); exact BKd.out)) : gd ≠ ge); have n14_ := Aside0.mk (by rw [hg]; exact Nat.ne_of_gt (blk_lt (g := gd) (o := (.cells #[.slice Ax0 yl0.length cx0, .slice Ax1 yl1.length cx1] 28 (0, 0))) (by (with_reducible repeat (first | refine blk_drewN ?_ _ | refine blk_drew ?_ | refine blk_alloc ?_ _)); exact BKd.out)) : ge ≠ gd); have n15_ := Aside0.mk (by rw [hg]; exact .inr (show laws_markTable.TB _ _ _ _ _ _ _ _ from (show laws_markTable.TB _ w.heap.size los his (.slice As0 sl0.length cs0) (.slice As1 sl1.length cs1) sl0 sl1 from (by (with_reducible repeat (first | apply laws_markTable.TB.drewN | apply laws_markTable.TB.drew | apply laws_markTable.TB.alloc)); exact Hs.out))).2.2.2 : ge < los ∨ his ≤ ge); have n16_ := Aside0.mk (by rw [hg]; exact .inr (show laws_markTable.TB _ _ _ _ _ _ _ _ from (show laws_markTable.TB _ w.heap.size lox hix (.slice Ax0 yl0.length cx0) (.slice Ax1 yl1.length cx1) yl0 yl1 from (by (with_reducible repeat (first | apply laws_markTable.TB.drewN | apply laws_markTable.TB.drew | apply laws_markTable.TB.alloc)); exact Hx.out))).2.2.2 : ge < lox ∨ hix ≤ ge); have n17_ := Aside0.mk (by rw [hg]; exact .inr (show laws_markTable.TB _ _ _ _ _ _ _ _ from (show laws_markTable.TB _ w.heap.size log hig (.slice Ag0 gl0.length cg0) (.slice Ag1 gl1.length cg1) gl0 gl1 from (by (with_reducible repeat (first | apply laws_markTable.TB.drewN | apply laws_markTable.TB.drew | apply laws_markTable.TB.alloc)); exact Hg.out))).2.2.2 : ge < log ∨ hig ≤ ge); clear Hs; clear Hx; clear Hg; clear BKa; clear BKb; clear BKd; clear HB; have Hs := n0_; have Hx := n1_; have Hg := n2_; have BKa := n3_; have BKb := n4_; have BKd := n5_; have HB := n6_; have BKe := n7_; have GEe := n8_; have NBa_e := n9_; have NBe_a := n10_; have NBb_e := n11_; have NBe_b := n12_; have NBd_e := n13_; have NBe_d := n14_; have SPs_e := n15_; have SPx_e := n16_; have SPg_e := n17_; clear n0_ n1_ n2_ n3_ n4_ n5_ n6_ n7_ n8_ n9_ n10_ n11_ n12_ n13_ n14_ n15_ n16_ n17_; clear hb hbox hg; have hcz21_a0 : w21.cell? ⟨ga, 0, none⟩ = some (.slice A0_0 l0_0.length c0_0) := (blk_cell BKa.out 0).trans rfl; have hfz21_a0 := blk_frozen BKa.out 0; have hcz21_a1 : w21.cell? ⟨ga, 1, none⟩ = some (.slice A0_1 l0_1.length c0_1) := (blk_cell BKa.out 1).trans rfl; have hfz21_a1 := blk_frozen BKa.out 1; have hcz21_b0 : w21.cell? ⟨gb, 0, none⟩ = some (.slice As0 sl0.length cs0) := (blk_cell BKb.out 0).trans rfl; have hfz21_b0 := blk_frozen BKb.out 0; have hcz21_b1 : w21.cell? ⟨gb, 1, none⟩ = some (.slice As1 sl1.length cs1) := (blk_cell BKb.out 1).trans rfl; have hfz21_b1 := blk_frozen BKb.out 1; have hcz21_d0 : w21.cell? ⟨gd, 0, none⟩ = some (.slice Ax0 yl0.length cx0) := (blk_cell BKd.out 0).trans rfl; have hfz21_d0 := blk_frozen BKd.out 0; have hcz21_d1 : w21.cell? ⟨gd, 1, none⟩ = some (.slice Ax1 yl1.length cx1) := (blk_cell BKd.out 1).trans rfl; have hfz21_d1 := blk_frozen BKd.out 1; have hcz21_e0 : w21.cell? ⟨ge, 0, none⟩ = some (.slice none 0 0) := (blk_cell BKe.out 0).trans rfl; have hfz21_e0 := blk_frozen BKe.out 0; have hcz21_e1 : w21.cell? ⟨ge, 1, none⟩ = some (.slice none 0 0) := (blk_cell BKe.out 1).trans rfl; have hfz21_e1 := blk_frozen BKe.out 1; have hnb21_a_b := NBa_b.out; have hnb21_a_d := NBa_d.out; have hnb21_a_e := NBa_e.out; have hnb21_b_a := NBb_a.out; have hnb21_b_d := NBb_d.out; have hnb21_b_e := NBb_e.out; have hnb21_d_a := NBd_a.out; have hnb21_d_b := NBd_b.out; have hnb21_d_e := NBd_e.out; have hnb21_e_a := NBe_a.out; have hnb21_e_b := NBe_b.out; have hnb21_e_d := NBe_d.out) |
      ((with_reducible refine gate_callee (f := 16) rfl ?_); refine goesL_ (some 38) rfl rfl Try.func16 (by kernel_rfl) rfl #[.agg #[.slice Ag0 gl0.length cg0, .slice Ag1 gl1.length cg1], .agg #[.slice As0 sl0.length cs0, .slice As1 sl1.length cs1]] rfl (by (try simp only [List.map_toArray, List.map_cons, List.map_nil]); first | done | rfl | (simp only [List.length_drop, List.length_take]; rfl)) ?_; (refine (laws_eqTable.calls k _ _ gl0 _ _ gl1 _ _ sl0 _ _ sl1 true _ ?side1 ?side2 ?side3 ?side4 ?side5 ?side6 ?side7 ?side8 HA4.out).mono ?_); (case side1 => exact (laws_markTable.TB.c0 (show laws_markTable.TB _ w.heap.size log hig (.slice Ag0 gl0.length cg0) (.slice Ag1 gl1.length cg1) gl0 gl1 from (by (with_reducible repeat (first | apply laws_markTable.TB.drewN | apply laws_markTable.TB.drew | apply laws_markTable.TB.alloc)); refine laws_markTable.TB.far (g := ge) ?_ (by have h1_ := SPg_e.out; omega) _; (with_reducible repeat (first | apply laws_markTable.TB.drewN | apply laws_markTable.TB.drew | apply laws_markTable.TB.alloc)); refine laws_markTable.TB.far (g := ge) ?_ (by have h1_ := SPg_e.out; omega) _; (with_reducible repeat (first | apply laws_markTable.TB.drewN | apply laws_markTable.TB.drew | apply laws_markTable.TB.alloc)); exact Hg.out)))); (case side2 => exact HCg0.out); (case side3 => exact (laws_markTable.TB.c1 (show laws_markTable.TB _ w.heap.size log hig (.slice Ag0 gl0.length cg0) (.slice Ag1 gl1.length cg1) gl0 gl1 from (by (with_reducible repeat (first | apply laws_markTable.TB.drewN | apply laws_markTable.TB.drew | apply laws_markTable.TB.alloc)); refine laws_markTable.TB.far (g := ge) ?_ (by have h1_ := SPg_e.out; omega) _; (with_reducible repeat (first | apply laws_markTable.TB.drewN | apply laws_markTable.TB.drew | apply laws_markTable.TB.alloc)); refine laws_markTable.TB.far (g := ge) ?_ (by have h1_ := SPg_e.out; omega) _; (with_reducible repeat (first | apply laws_markTable.TB.drewN | apply laws_markTable.TB.drew | apply laws_markTable.TB.alloc)); exact Hg.out)))); (case side4 => exact HCg1.out); (case side5 => exact (laws_markTable.TB.c0 (show laws_markTable.TB _ w.heap.size los his (.slice As0 sl0.length cs0) (.slice As1 sl1.length cs1) sl0 sl1 from (by (with_reducible repeat (first | apply laws_markTable.TB.drewN | apply laws_markTable.TB.drew | apply laws_markTable.TB.alloc)); refine laws_markTable.TB.far (g := ge) ?_ (by have h1_ := SPs_e.out; omega) _; (with_reducible repeat (first | apply laws_markTable.TB.drewN | apply laws_markTable.TB.drew | apply laws_markTable.TB.alloc)); refine laws_markTable.TB.far (g := ge) ?_ (by have h1_ := SPs_e.out; omega) _; (with_reducible repeat (first | apply laws_markTable.TB.drewN | apply laws_markTable.TB.drew | apply laws_markTable.TB.alloc)); exact Hs.out)))); (case side6 => exact HCs0.out); (case side7 => exact (laws_markTable.TB.c1 (show laws_markTable.TB _ w.heap.size los his (.slice As0 sl0.length cs0) (.slice As1 sl1.length cs1) sl0 sl1 from (by (with_reducible repeat (first | apply laws_markTable.TB.drewN | apply laws_markTable.TB.drew | apply laws_markTable.TB.alloc)); refine laws_markTable.TB.far (g := ge) ?_ (by have h1_ := SPs_e.out; omega) _; (with_reducible repeat (first | apply laws_markTable.TB.drewN | apply laws_markTable.TB.drew | apply laws_markTable.TB.alloc)); refine laws_markTable.TB.far (g := ge) ?_ (by have h1_ := SPs_e.out; omega) _; (with_reducible repeat (first | apply laws_markTable.TB.drewN | apply laws_markTable.TB.drew | apply laws_markTable.TB.alloc)); exact Hs.out)))); (case side8 => exact HCs1.out); rintro e w23 ⟨rfl, hb⟩; refine ⟨_, rfl, ?_⟩; (try clear hcz21_a0); (try clear hfz21_a0); (try clear hcz21_a1); (try clear hfz21_a1); (try clear hcz21_b0); (try clear hfz21_b0); (try clear hcz21_b1); (try clear hfz21_b1); (try clear hcz21_d0); (try clear hfz21_d0); (try clear hcz21_d1); (try clear hfz21_d1); (try clear hcz21_e0); (try clear hfz21_e0); (try clear hcz21_e1); (try clear hfz21_e1); (try clear hnb21_a_b); (try clear hnb21_a_d); (try clear hnb21_a_e); (try clear hnb21_b_a); (try clear hnb21_b_d); (try clear hnb21_b_e); (try clear hnb21_d_a); (try clear hnb21_d_b); (try clear hnb21_d_e); (try clear hnb21_e_a); (try clear hnb21_e_b); (try clear hnb21_e_d); have n0_ := Aside0.mk (laws_markTable.TB.below (show laws_markTable.TB _ w.heap.size los his (.slice As0 sl0.length cs0) (.slice As1 sl1.length cs1) sl0 sl1 from (by (with_reducible repeat (first | apply laws_markTable.TB.drewN | apply laws_markTable.TB.drew | apply laws_markTable.TB.alloc)); refine laws_markTable.TB.far (g := ge) ?_ (by have h1_ := SPs_e.out; omega) _; (with_reducible repeat (first | apply laws_markTable.TB.drewN | apply laws_markTable.TB.drew | apply laws_markTable.TB.alloc)); refine laws_markTable.TB.far (g := ge) ?_ (by have h1_ := SPs_e.out; omega) _; (with_reducible repeat (first | apply laws_markTable.TB.drewN | apply laws_markTable.TB.drew | apply laws_markTable.TB.alloc)); exact Hs.out)) hb); have n1_ := Aside0.mk (laws_markTable.TB.below (show laws_markTable.TB _ w.heap.size lox hix (.slice Ax0 yl0.length cx0) (.slice Ax1 yl1.length cx1) yl0 yl1 from (by (with_reducible repeat (first | apply laws_markTable.TB.drewN | apply laws_markTable.TB.drew | apply laws_markTable.TB.alloc)); refine laws_markTable.TB.far (g := ge) ?_ (by have h1_ := SPx_e.out; omega) _; (with_reducible repeat (first | apply laws_markTable.TB.drewN | apply laws_markTable.TB.drew | apply laws_markTable.TB.alloc)); refine laws_markTable.TB.far (g := ge) ?_ (by have h1_ := SPx_e.out; omega) _; (with_reducible repeat (first | apply laws_markTable.TB.drewN | apply laws_markTable.TB.drew | apply laws_markTable.TB.alloc)); exact Hx.out)) hb); have n2_ := Aside0.mk (laws_markTable.TB.below (show laws_markTable.TB _ w.heap.size log hig (.slice Ag0 gl0.length cg0) (.slice Ag1 gl1.length cg1) gl0 gl1 from (by (with_reducible repeat (first | apply laws_markTable.TB.drewN | apply laws_markTable.TB.drew | apply laws_markTable.TB.alloc)); refine laws_markTable.TB.far (g := ge) ?_ (by have h1_ := SPg_e.out; omega) _; (with_reducible repeat (first | apply laws_markTable.TB.drewN | apply laws_markTable.TB.drew | apply laws_markTable.TB.alloc)); refine laws_markTable.TB.far (g := ge) ?_ (by have h1_ := SPg_e.out; omega) _; (with_reducible repeat (first | apply laws_markTable.TB.drewN | apply laws_markTable.TB.drew | apply laws_markTable.TB.alloc)); exact Hg.out)) hb); have n3_ := Aside0.mk (blk_below (g := ga) (o := (.cells #[.slice A0_0 l0_0.length c0_0, .slice A0_1 l0_1.length c0_1] 25 (0, 0))) (by (with_reducible repeat (first | refine blk_drewN ?_ _ | refine blk_drew ?_ | refine blk_alloc ?_ _)); refine blk_far ?_ NBa_e.out _; (with_reducible repeat (first | refine blk_drewN ?_ _ | refine blk_drew ?_ | refine blk_alloc ?_ _)); refine blk_far ?_ NBa_e.out _; (with_reducible repeat (first | refine blk_drewN ?_ _ | refine blk_drew ?_ | refine blk_alloc ?_ _)); exact BKa.out) hb); have n4_ := Aside0.mk (blk_below (g := gb) (o := (.cells #[.slice As0 sl0.length cs0, .slice As1 sl1.length cs1] 28 (0, 0))) (by (with_reducible repeat (first | refine blk_drewN ?_ _ | refine blk_drew ?_ | refine blk_alloc ?_ _)); refine blk_far ?_ NBb_e.out _; (with_reducible repeat (first | refine blk_drewN ?_ _ | refine blk_drew ?_ | refine blk_alloc ?_ _)); refine blk_far ?_ NBb_e.out _; (with_reducible repeat (first | refine blk_drewN ?_ _ | refine blk_drew ?_ | refine blk_alloc ?_ _)); exact BKb.out) hb); have n5_ := Aside0.mk (blk_below (g := gd) (o := (.cells #[.slice Ax0 yl0.length cx0, .slice Ax1 yl1.length cx1] 28 (0, 0))) (by (with_reducible repeat (first | refine blk_drewN ?_ _ | refine blk_drew ?_ | refine blk_alloc ?_ _)); refine blk_far ?_ NBd_e.out _; (with_reducible repeat (first | refine blk_drewN ?_ _ | refine blk_drew ?_ | refine blk_alloc ?_ _)); refine blk_far ?_ NBd_e.out _; (with_reducible repeat (first | refine blk_drewN ?_ _ | refine blk_drew ?_ | refine blk_alloc ?_ _)); exact BKd.out) hb); have n6_ := Aside0.mk (blk_below (g := ge) (o := (.cells #[.slice Ag0 gl0.length cg0, .slice Ag1 gl1.length cg1] 28 (0, 0))) (by (with_reducible repeat (first | refine blk_drewN ?_ _ | refine blk_drew ?_ | refine blk_alloc ?_ _)); refine blk_put (cs := #[.slice Ag0 gl0.length cg0, .slice none 0 0]) ?_ 1 _ rfl; (with_reducible repeat (first | refine blk_drewN ?_ _ | refine blk_drew ?_ | refine blk_alloc ?_ _)); refine blk_put (cs := #[.slice none 0 0, .slice none 0 0]) ?_ 0 _ rfl; (with_reducible repeat (first | refine blk_drewN ?_ _ | refine blk_drew ?_ | refine blk_alloc ?_ _)); exact BKe.out) hb); have n7_ := Aside0.mk (below_step (by repeat (first | (with_reducible first | exact HB.out | apply below_alloc | apply pw_below_drewN | apply below_drew1 | refine below_set ?_ GEa.out | refine below_set ?_ GEb.out | refine below_set ?_ GEd.out | refine below_set ?_ GEe.out) | exact HB.out)) hb); clear Hs; clear Hx; clear Hg; clear BKa; clear BKb; clear BKd; clear BKe; clear HB; have Hs := n0_; have Hx := n1_; have Hg := n2_; have BKa := n3_; have BKb := n4_; have BKd := n5_; have BKe := n6_; have HB := n7_; clear n0_ n1_ n2_ n3_ n4_ n5_ n6_ n7_; clear hb; have hcz23_a0 : w23.cell? ⟨ga, 0, none⟩ = some (.slice A0_0 l0_0.length c0_0) := (blk_cell BKa.out 0).trans rfl; have hfz23_a0 := blk_frozen BKa.out 0; have hcz23_a1 : w23.cell? ⟨ga, 1, none⟩ = some (.slice A0_1 l0_1.length c0_1) := (blk_cell BKa.out 1).trans rfl; have hfz23_a1 := blk_frozen BKa.out 1; have hcz23_b0 : w23.cell? ⟨gb, 0, none⟩ = some (.slice As0 sl0.length cs0) := (blk_cell BKb.out 0).trans rfl; have hfz23_b0 := blk_frozen BKb.out 0; have hcz23_b1 : w23.cell? ⟨gb, 1, none⟩ = some (.slice As1 sl1.length cs1) := (blk_cell BKb.out 1).trans rfl; have hfz23_b1 := blk_frozen BKb.out 1; have hcz23_d0 : w23.cell? ⟨gd, 0, none⟩ = some (.slice Ax0 yl0.length cx0) := (blk_cell BKd.out 0).trans rfl; have hfz23_d0 := blk_frozen BKd.out 0; have hcz23_d1 : w23.cell? ⟨gd, 1, none⟩ = some (.slice Ax1 yl1.length cx1) := (blk_cell BKd.out 1).trans rfl; have hfz23_d1 := blk_frozen BKd.out 1; have hcz23_e0 : w23.cell? ⟨ge, 0, none⟩ = some (.slice Ag0 gl0.length cg0) := (blk_cell BKe.out 0).trans rfl; have hfz23_e0 := blk_frozen BKe.out 0; have hcz23_e1 : w23.cell? ⟨ge, 1, none⟩ = some (.slice Ag1 gl1.length cg1) := (blk_cell BKe.out 1).trans rfl; have hfz23_e1 := blk_frozen BKe.out 1; have hnb23_a_b := NBa_b.out; have hnb23_a_d := NBa_d.out; have hnb23_a_e := NBa_e.out; have hnb23_b_a := NBb_a.out; have hnb23_b_d := NBb_d.out; have hnb23_b_e := NBb_e.out; have hnb23_d_a := NBd_a.out; have hnb23_d_b := NBd_b.out; have hnb23_d_e := NBd_e.out; have hnb23_e_a := NBe_a.out; have hnb23_e_b := NBe_b.out; have hnb23_e_d := NBe_d.out))
    (try clear hcz23_a0)
    (try clear hfz23_a0)
    (try clear hcz23_a1)
    (try clear hfz23_a1)
    (try clear hcz23_b0)
    (try clear hfz23_b0)
    (try clear hcz23_b1)
    (try clear hfz23_b1)
    (try clear hcz23_d0)
    (try clear hfz23_d0)
    (try clear hcz23_d1)
    (try clear hfz23_d1)
    (try clear hcz23_e0)
    (try clear hfz23_e0)
    (try clear hcz23_e1)
    (try clear hfz23_e1)
    (try clear hnb23_a_b)
    (try clear hnb23_a_d)
    (try clear hnb23_a_e)
    (try clear hnb23_b_a)
    (try clear hnb23_b_d)
    (try clear hnb23_b_e)
    (try clear hnb23_d_a)
    (try clear hnb23_d_b)
    (try clear hnb23_d_e)
    (try clear hnb23_e_a)
    (try clear hnb23_e_b)
    (try clear hnb23_e_d)
    have nb := Aside0.mk (below_drew1 (Below.refl w23.heap.size w23))
    have n0_ := Aside0.mk (laws_markTable.TB.below (show laws_markTable.TB _ w.heap.size los his (.slice As0 sl0.length cs0) (.slice As1 sl1.length cs1) sl0 sl1 from (by (with_reducible repeat (first | apply laws_markTable.TB.drewN | apply laws_markTable.TB.drew | apply laws_markTable.TB.alloc)); exact Hs.out)) nb.out)
    have n1_ := Aside0.mk (laws_markTable.TB.below (show laws_markTable.TB _ w.heap.size lox hix (.slice Ax0 yl0.length cx0) (.slice Ax1 yl1.length cx1) yl0 yl1 from (by (with_reducible repeat (first | apply laws_markTable.TB.drewN | apply laws_markTable.TB.drew | apply laws_markTable.TB.alloc)); exact Hx.out)) nb.out)
    have n2_ := Aside0.mk (laws_markTable.TB.below (show laws_markTable.TB _ w.heap.size log hig (.slice Ag0 gl0.length cg0) (.slice Ag1 gl1.length cg1) gl0 gl1 from (by (with_reducible repeat (first | apply laws_markTable.TB.drewN | apply laws_markTable.TB.drew | apply laws_markTable.TB.alloc)); exact Hg.out)) nb.out)
    have n3_ := Aside0.mk (blk_below (g := ga) (o := (.cells #[.slice A0_0 l0_0.length c0_0, .slice A0_1 l0_1.length c0_1] 25 (0, 0))) (by (with_reducible repeat (first | refine blk_drewN ?_ _ | refine blk_drew ?_ | refine blk_alloc ?_ _)); exact BKa.out) nb.out)
    have n4_ := Aside0.mk (blk_below (g := gb) (o := (.cells #[.slice As0 sl0.length cs0, .slice As1 sl1.length cs1] 28 (0, 0))) (by (with_reducible repeat (first | refine blk_drewN ?_ _ | refine blk_drew ?_ | refine blk_alloc ?_ _)); exact BKb.out) nb.out)
    have n5_ := Aside0.mk (blk_below (g := gd) (o := (.cells #[.slice Ax0 yl0.length cx0, .slice Ax1 yl1.length cx1] 28 (0, 0))) (by (with_reducible repeat (first | refine blk_drewN ?_ _ | refine blk_drew ?_ | refine blk_alloc ?_ _)); exact BKd.out) nb.out)
    have n6_ := Aside0.mk (blk_below (g := ge) (o := (.cells #[.slice Ag0 gl0.length cg0, .slice Ag1 gl1.length cg1] 28 (0, 0))) (by (with_reducible repeat (first | refine blk_drewN ?_ _ | refine blk_drew ?_ | refine blk_alloc ?_ _)); exact BKe.out) nb.out)
    have n7_ := Aside0.mk (below_step (by repeat (first | (with_reducible first | exact HB.out | apply below_alloc | apply pw_below_drewN | apply below_drew1 | refine below_set ?_ GEa.out | refine below_set ?_ GEb.out | refine below_set ?_ GEd.out | refine below_set ?_ GEe.out) | exact HB.out)) nb.out)
    clear Hs
    clear Hx
    clear Hg
    clear BKa
    clear BKb
    clear BKd
    clear BKe
    clear HB
    have Hs := n0_
    have Hx := n1_
    have Hg := n2_
    have BKa := n3_
    have BKb := n4_
    have BKd := n5_
    have BKe := n6_
    have HB := n7_
    clear n0_ n1_ n2_ n3_ n4_ n5_ n6_ n7_
    clear nb
    refine start_ (n := 5) (S := fun w' => w'.cell? ⟨gd, 0, none⟩ = some (.slice Ax0 yl0.length cx0) ∧ w'.cell? ⟨gd, 1, none⟩ = some (.slice Ax1 yl1.length cx1) ∧ w'.cell? ⟨ga, 0, none⟩ = some (.slice A0_0 l0_0.length c0_0) ∧ w'.cell? ⟨ga, 1, none⟩ = some (.slice A0_1 l0_1.length c0_1)) (ds := []) #[false, false, false, false, false] (by kernel_rfl) rfl rfl ⟨(blk_cell BKd.out 0).trans rfl, (blk_cell BKd.out 1).trans rfl, (blk_cell BKa.out 0).trans rfl, (blk_cell BKa.out 1).trans rfl⟩ (fun hHeld => ?_)
    generalize w23.drew = w24 at Hs Hx Hg BKa BKb BKd BKe HB hHeld ⊢
    refine take_ (i := 0) (N := some 45) (v := ?_) (a' := ?_) #[true, false, false, false, false] rfl rfl (by kernel_rfl) (fun _ _ _ h => h) (Or.inl ⟨by rfl, ?_⟩) hHeld ?_ ?_
    rotate_left
    · rintro w' ⟨s0, s1, s2, s3⟩
      go_simp
      with_reducible rfl
    rotate_left
    · simp only [Act.put, List.setIfInBounds_toArray, List.set_cons_zero, List.set_cons_succ, i64_w, i32_w]
      rfl
    refine take_ (i := 1) (N := some 46) (v := ?_) (a' := ?_) #[true, true, false, false, false] rfl rfl (by kernel_rfl) (fun _ _ _ h => h) (Or.inl ⟨by rfl, ?_⟩) hHeld ?_ ?_
    rotate_left
    · rintro w' ⟨s0, s1, s2, s3⟩
      go_simp
      with_reducible rfl
    rotate_left
    · simp only [Act.put, List.setIfInBounds_toArray, List.set_cons_zero, List.set_cons_succ, i64_w, i32_w]
      rfl
    refine one_ (i := 2) (N := some 47) #[true, true, true, false, false] rfl rfl (by kernel_rfl) (by decide) (fun K hK => ?_)
    refine goes_ Try.func14 (by kernel_rfl) rfl #[.agg #[.slice A0_0 l0_0.length c0_0, .slice A0_1 l0_1.length c0_1]] (by rfl) rfl rfl (by (try simp only [List.map_toArray, List.map_cons, List.map_nil]); first | done | rfl | (simp only [List.length_drop, List.length_take]; rfl)) ?_
    refine (laws_toTable.calls k _ _ l0_0 _ _ l0_1 yl0 yl1 _ ?side1 ?side2 ?side3 ?side4 HA1.out).mono ?_
    (case side1 => exact (Kd.C_below HR0_0.out (by repeat (first | (with_reducible first | exact HB.out | apply below_alloc | apply pw_below_drewN | apply below_drew1 | refine below_set ?_ GEa.out | refine below_set ?_ GEb.out | refine below_set ?_ GEd.out | refine below_set ?_ GEe.out) | exact HB.out))))
    (case side2 => exact HC0_0.out)
    (case side3 => exact (Kd.C_below HR0_1.out (by repeat (first | (with_reducible first | exact HB.out | apply below_alloc | apply pw_below_drewN | apply below_drew1 | refine below_set ?_ GEa.out | refine below_set ?_ GEb.out | refine below_set ?_ GEd.out | refine below_set ?_ GEe.out) | exact HB.out))))
    (case side4 => exact HC0_1.out)
    rintro e w25 ⟨v0_, v1_, rfl, ho0, ho1, hb⟩
    refine ⟨_, rfl, ?_⟩
    obtain ⟨loz, hiz, hT, hs0, hs1, hs2, hs3, ht0, ht1, ht2⟩ : ∃ lo hi, laws_markTable.TB w25 w.heap.size lo hi v0_ v1_ yl0 yl1 ∧ (ga < lo ∨ hi ≤ ga) ∧ (gb < lo ∨ hi ≤ gb) ∧ (gd < lo ∨ hi ≤ gd) ∧ (ge < lo ∨ hi ≤ ge) ∧ his ≤ lo ∧ hix ≤ lo ∧ hig ≤ lo := ⟨_, _, laws_markTable.TB.new ho0 ho1 (below_size (by repeat (first | (with_reducible first | exact HB.out | apply below_alloc | apply pw_below_drewN | apply below_drew1 | refine below_set ?_ GEa.out | refine below_set ?_ GEb.out | refine below_set ?_ GEd.out | refine below_set ?_ GEe.out) | exact HB.out))) hb, .inl (blk_lt (g := ga) (o := (.cells #[.slice A0_0 l0_0.length c0_0, .slice A0_1 l0_1.length c0_1] 25 (0, 0))) (by (with_reducible repeat (first | refine blk_drewN ?_ _ | refine blk_drew ?_ | refine blk_alloc ?_ _)); exact BKa.out)), .inl (blk_lt (g := gb) (o := (.cells #[.slice As0 sl0.length cs0, .slice As1 sl1.length cs1] 28 (0, 0))) (by (with_reducible repeat (first | refine blk_drewN ?_ _ | refine blk_drew ?_ | refine blk_alloc ?_ _)); exact BKb.out)), .inl (blk_lt (g := gd) (o := (.cells #[.slice Ax0 yl0.length cx0, .slice Ax1 yl1.length cx1] 28 (0, 0))) (by (with_reducible repeat (first | refine blk_drewN ?_ _ | refine blk_drew ?_ | refine blk_alloc ?_ _)); exact BKd.out)), .inl (blk_lt (g := ge) (o := (.cells #[.slice Ag0 gl0.length cg0, .slice Ag1 gl1.length cg1] 28 (0, 0))) (by (with_reducible repeat (first | refine blk_drewN ?_ _ | refine blk_drew ?_ | refine blk_alloc ?_ _)); exact BKe.out)), (show laws_markTable.TB _ w.heap.size los his (.slice As0 sl0.length cs0) (.slice As1 sl1.length cs1) sl0 sl1 from (by (with_reducible repeat (first | apply laws_markTable.TB.drewN | apply laws_markTable.TB.drew | apply laws_markTable.TB.alloc)); exact Hs.out)).2.2.2, (show laws_markTable.TB _ w.heap.size lox hix (.slice Ax0 yl0.length cx0) (.slice Ax1 yl1.length cx1) yl0 yl1 from (by (with_reducible repeat (first | apply laws_markTable.TB.drewN | apply laws_markTable.TB.drew | apply laws_markTable.TB.alloc)); exact Hx.out)).2.2.2, (show laws_markTable.TB _ w.heap.size log hig (.slice Ag0 gl0.length cg0) (.slice Ag1 gl1.length cg1) gl0 gl1 from (by (with_reducible repeat (first | apply laws_markTable.TB.drewN | apply laws_markTable.TB.drew | apply laws_markTable.TB.alloc)); exact Hg.out)).2.2.2⟩
    clear ho0 ho1
    have SPz_a := Aside0.mk hs0
    have SPz_b := Aside0.mk hs1
    have SPz_d := Aside0.mk hs2
    have SPz_e := Aside0.mk hs3
    have SOs_z := Aside0.mk ht0
    have SOx_z := Aside0.mk ht1
    have SOg_z := Aside0.mk ht2
    clear hs0 hs1 hs2 hs3 ht0 ht1 ht2
    have n0_ := Aside0.mk (laws_markTable.TB.below (show laws_markTable.TB _ w.heap.size los his (.slice As0 sl0.length cs0) (.slice As1 sl1.length cs1) sl0 sl1 from (by (with_reducible repeat (first | apply laws_markTable.TB.drewN | apply laws_markTable.TB.drew | apply laws_markTable.TB.alloc)); exact Hs.out)) hb)
    have n1_ := Aside0.mk (laws_markTable.TB.below (show laws_markTable.TB _ w.heap.size lox hix (.slice Ax0 yl0.length cx0) (.slice Ax1 yl1.length cx1) yl0 yl1 from (by (with_reducible repeat (first | apply laws_markTable.TB.drewN | apply laws_markTable.TB.drew | apply laws_markTable.TB.alloc)); exact Hx.out)) hb)
    have n2_ := Aside0.mk (laws_markTable.TB.below (show laws_markTable.TB _ w.heap.size log hig (.slice Ag0 gl0.length cg0) (.slice Ag1 gl1.length cg1) gl0 gl1 from (by (with_reducible repeat (first | apply laws_markTable.TB.drewN | apply laws_markTable.TB.drew | apply laws_markTable.TB.alloc)); exact Hg.out)) hb)
    have n3_ := Aside0.mk (blk_below (g := ga) (o := (.cells #[.slice A0_0 l0_0.length c0_0, .slice A0_1 l0_1.length c0_1] 25 (0, 0))) (by (with_reducible repeat (first | refine blk_drewN ?_ _ | refine blk_drew ?_ | refine blk_alloc ?_ _)); exact BKa.out) hb)
    have n4_ := Aside0.mk (blk_below (g := gb) (o := (.cells #[.slice As0 sl0.length cs0, .slice As1 sl1.length cs1] 28 (0, 0))) (by (with_reducible repeat (first | refine blk_drewN ?_ _ | refine blk_drew ?_ | refine blk_alloc ?_ _)); exact BKb.out) hb)
    have n5_ := Aside0.mk (blk_below (g := gd) (o := (.cells #[.slice Ax0 yl0.length cx0, .slice Ax1 yl1.length cx1] 28 (0, 0))) (by (with_reducible repeat (first | refine blk_drewN ?_ _ | refine blk_drew ?_ | refine blk_alloc ?_ _)); exact BKd.out) hb)
    have n6_ := Aside0.mk (blk_below (g := ge) (o := (.cells #[.slice Ag0 gl0.length cg0, .slice Ag1 gl1.length cg1] 28 (0, 0))) (by (with_reducible repeat (first | refine blk_drewN ?_ _ | refine blk_drew ?_ | refine blk_alloc ?_ _)); exact BKe.out) hb)
    have n7_ := Aside0.mk (below_step (by repeat (first | (with_reducible first | exact HB.out | apply below_alloc | apply pw_below_drewN | apply below_drew1 | refine below_set ?_ GEa.out | refine below_set ?_ GEb.out | refine below_set ?_ GEd.out | refine below_set ?_ GEe.out) | exact HB.out)) hb)
    clear Hs
    clear Hx
    clear Hg
    clear BKa
    clear BKb
    clear BKd
    clear BKe
    clear HB
    have Hs := n0_
    have Hx := n1_
    have Hg := n2_
    have BKa := n3_
    have BKb := n4_
    have BKd := n5_
    have BKe := n6_
    have HB := n7_
    clear n0_ n1_ n2_ n3_ n4_ n5_ n6_ n7_
    have Hz := Aside0.mk hT
    clear hT
    obtain ⟨Az0, cz0, Az1, cz1, e1_, e2_, hc0_, hc1_⟩ := laws_markTable.TB.shape Hz.out
    subst e1_ e2_
    have HCz0 := Aside0.mk hc0_
    have HCz1 := Aside0.mk hc1_
    clear hc0_ hc1_
    clear hb
    refine hK.out _ _ ⟨(blk_cell BKd.out 0).trans rfl, (blk_cell BKd.out 1).trans rfl, (blk_cell BKa.out 0).trans rfl, (blk_cell BKa.out 1).trans rfl⟩ (fun hHeld => ?_)
    clear hK K
    refine norm_ (a' := ?_) ?_ ?_
    rotate_left
    · show Act.put _ (some 47) _ = _
      simp only [Act.put, List.setIfInBounds_toArray, List.set_cons_zero, List.set_cons_succ, i64_w, i32_w]
      rfl
    refine one_ (i := 3) (N := some 48) #[true, true, true, true, false] rfl rfl (by kernel_rfl) (by decide) (fun K hK => ?_)
    refine goes_ Try.func16 (by kernel_rfl) rfl #[.agg #[.slice Ax0 yl0.length cx0, .slice Ax1 yl1.length cx1], .agg #[.slice Az0 yl0.length cz0, .slice Az1 yl1.length cz1]] (by rfl) rfl rfl (by (try simp only [List.map_toArray, List.map_cons, List.map_nil]); first | done | rfl | (simp only [List.length_drop, List.length_take]; rfl)) ?_
    refine (laws_eqTable.calls k _ _ yl0 _ _ yl1 _ _ yl0 _ _ yl1 true _ ?side1 ?side2 ?side3 ?side4 ?side5 ?side6 ?side7 ?side8 HA5.out).mono ?_
    (case side1 => exact (laws_markTable.TB.c0 (show laws_markTable.TB _ w.heap.size lox hix (.slice Ax0 yl0.length cx0) (.slice Ax1 yl1.length cx1) yl0 yl1 from (by (with_reducible repeat (first | apply laws_markTable.TB.drewN | apply laws_markTable.TB.drew | apply laws_markTable.TB.alloc)); exact Hx.out))))
    (case side2 => exact HCx0.out)
    (case side3 => exact (laws_markTable.TB.c1 (show laws_markTable.TB _ w.heap.size lox hix (.slice Ax0 yl0.length cx0) (.slice Ax1 yl1.length cx1) yl0 yl1 from (by (with_reducible repeat (first | apply laws_markTable.TB.drewN | apply laws_markTable.TB.drew | apply laws_markTable.TB.alloc)); exact Hx.out))))
    (case side4 => exact HCx1.out)
    (case side5 => exact (laws_markTable.TB.c0 (show laws_markTable.TB _ w.heap.size loz hiz (.slice Az0 yl0.length cz0) (.slice Az1 yl1.length cz1) yl0 yl1 from (by (with_reducible repeat (first | apply laws_markTable.TB.drewN | apply laws_markTable.TB.drew | apply laws_markTable.TB.alloc)); exact Hz.out))))
    (case side6 => exact HCz0.out)
    (case side7 => exact (laws_markTable.TB.c1 (show laws_markTable.TB _ w.heap.size loz hiz (.slice Az0 yl0.length cz0) (.slice Az1 yl1.length cz1) yl0 yl1 from (by (with_reducible repeat (first | apply laws_markTable.TB.drewN | apply laws_markTable.TB.drew | apply laws_markTable.TB.alloc)); exact Hz.out))))
    (case side8 => exact HCz1.out)
    rintro e w26 ⟨rfl, hb⟩
    refine ⟨_, rfl, ?_⟩
    have n0_ := Aside0.mk (laws_markTable.TB.below (show laws_markTable.TB _ w.heap.size los his (.slice As0 sl0.length cs0) (.slice As1 sl1.length cs1) sl0 sl1 from (by (with_reducible repeat (first | apply laws_markTable.TB.drewN | apply laws_markTable.TB.drew | apply laws_markTable.TB.alloc)); exact Hs.out)) hb)
    have n1_ := Aside0.mk (laws_markTable.TB.below (show laws_markTable.TB _ w.heap.size lox hix (.slice Ax0 yl0.length cx0) (.slice Ax1 yl1.length cx1) yl0 yl1 from (by (with_reducible repeat (first | apply laws_markTable.TB.drewN | apply laws_markTable.TB.drew | apply laws_markTable.TB.alloc)); exact Hx.out)) hb)
    have n2_ := Aside0.mk (laws_markTable.TB.below (show laws_markTable.TB _ w.heap.size log hig (.slice Ag0 gl0.length cg0) (.slice Ag1 gl1.length cg1) gl0 gl1 from (by (with_reducible repeat (first | apply laws_markTable.TB.drewN | apply laws_markTable.TB.drew | apply laws_markTable.TB.alloc)); exact Hg.out)) hb)
    have n3_ := Aside0.mk (blk_below (g := ga) (o := (.cells #[.slice A0_0 l0_0.length c0_0, .slice A0_1 l0_1.length c0_1] 25 (0, 0))) (by (with_reducible repeat (first | refine blk_drewN ?_ _ | refine blk_drew ?_ | refine blk_alloc ?_ _)); exact BKa.out) hb)
    have n4_ := Aside0.mk (blk_below (g := gb) (o := (.cells #[.slice As0 sl0.length cs0, .slice As1 sl1.length cs1] 28 (0, 0))) (by (with_reducible repeat (first | refine blk_drewN ?_ _ | refine blk_drew ?_ | refine blk_alloc ?_ _)); exact BKb.out) hb)
    have n5_ := Aside0.mk (blk_below (g := gd) (o := (.cells #[.slice Ax0 yl0.length cx0, .slice Ax1 yl1.length cx1] 28 (0, 0))) (by (with_reducible repeat (first | refine blk_drewN ?_ _ | refine blk_drew ?_ | refine blk_alloc ?_ _)); exact BKd.out) hb)
    have n6_ := Aside0.mk (blk_below (g := ge) (o := (.cells #[.slice Ag0 gl0.length cg0, .slice Ag1 gl1.length cg1] 28 (0, 0))) (by (with_reducible repeat (first | refine blk_drewN ?_ _ | refine blk_drew ?_ | refine blk_alloc ?_ _)); exact BKe.out) hb)
    have n7_ := Aside0.mk (below_step (by repeat (first | (with_reducible first | exact HB.out | apply below_alloc | apply pw_below_drewN | apply below_drew1 | refine below_set ?_ GEa.out | refine below_set ?_ GEb.out | refine below_set ?_ GEd.out | refine below_set ?_ GEe.out) | exact HB.out)) hb)
    clear Hs
    clear Hx
    clear Hg
    clear BKa
    clear BKb
    clear BKd
    clear BKe
    clear HB
    have Hs := n0_
    have Hx := n1_
    have Hg := n2_
    have BKa := n3_
    have BKb := n4_
    have BKd := n5_
    have BKe := n6_
    have HB := n7_
    clear n0_ n1_ n2_ n3_ n4_ n5_ n6_ n7_
    clear hb
    refine hK.out _ _ ⟨(blk_cell BKd.out 0).trans rfl, (blk_cell BKd.out 1).trans rfl, (blk_cell BKa.out 0).trans rfl, (blk_cell BKa.out 1).trans rfl⟩ (fun hHeld => ?_)
    clear hK K
    refine norm_ (a' := ?_) ?_ ?_
    rotate_left
    · show Act.put _ (some 48) _ = _
      simp only [Act.put, List.setIfInBounds_toArray, List.set_cons_zero, List.set_cons_succ, i64_w, i32_w]
      rfl
    refine pure_ (i := 4) (N := some 49) (v := ?_) (a' := ?_) #[true, true, true, true, true] rfl rfl (by kernel_rfl) (fun _ _ _ h => h) (Or.inl ⟨by rfl, ?_⟩) ?_ ?_
    rotate_left
    · intro w'
      go_simp
      with_reducible rfl
    rotate_left
    · simp only [Act.put, List.setIfInBounds_toArray, List.set_cons_zero, List.set_cons_succ, i64_w, i32_w]
      rfl
    refine done_ (by kernel_rfl) ?_
    have hcz26_a0 : w26.cell? ⟨ga, 0, none⟩ = some (.slice A0_0 l0_0.length c0_0) := (blk_cell BKa.out 0).trans rfl
    have hfz26_a0 := blk_frozen BKa.out 0
    have hcz26_a1 : w26.cell? ⟨ga, 1, none⟩ = some (.slice A0_1 l0_1.length c0_1) := (blk_cell BKa.out 1).trans rfl
    have hfz26_a1 := blk_frozen BKa.out 1
    have hcz26_b0 : w26.cell? ⟨gb, 0, none⟩ = some (.slice As0 sl0.length cs0) := (blk_cell BKb.out 0).trans rfl
    have hfz26_b0 := blk_frozen BKb.out 0
    have hcz26_b1 : w26.cell? ⟨gb, 1, none⟩ = some (.slice As1 sl1.length cs1) := (blk_cell BKb.out 1).trans rfl
    have hfz26_b1 := blk_frozen BKb.out 1
    have hcz26_d0 : w26.cell? ⟨gd, 0, none⟩ = some (.slice Ax0 yl0.length cx0) := (blk_cell BKd.out 0).trans rfl
    have hfz26_d0 := blk_frozen BKd.out 0
    have hcz26_d1 : w26.cell? ⟨gd, 1, none⟩ = some (.slice Ax1 yl1.length cx1) := (blk_cell BKd.out 1).trans rfl
    have hfz26_d1 := blk_frozen BKd.out 1
    have hcz26_e0 : w26.cell? ⟨ge, 0, none⟩ = some (.slice Ag0 gl0.length cg0) := (blk_cell BKe.out 0).trans rfl
    have hfz26_e0 := blk_frozen BKe.out 0
    have hcz26_e1 : w26.cell? ⟨ge, 1, none⟩ = some (.slice Ag1 gl1.length cg1) := (blk_cell BKe.out 1).trans rfl
    have hfz26_e1 := blk_frozen BKe.out 1
    have hnb26_a_b := NBa_b.out
    have hnb26_a_d := NBa_d.out
    have hnb26_a_e := NBa_e.out
    have hnb26_b_a := NBb_a.out
    have hnb26_b_d := NBb_d.out
    have hnb26_b_e := NBb_e.out
    have hnb26_d_a := NBd_a.out
    have hnb26_d_b := NBd_b.out
    have hnb26_d_e := NBd_e.out
    have hnb26_e_a := NBe_a.out
    have hnb26_e_b := NBe_b.out
    have hnb26_e_d := NBe_d.out
    go_wp2_with (first | ((with_reducible refine gate_callee (f := 31) rfl ?_); refine goesL_ (some 52) rfl rfl Try.func31 (by kernel_rfl) rfl #[.agg #[.slice Ax0 yl0.length cx0, .slice Ax1 yl1.length cx1], .int .i64 1] rfl (by (try simp only [List.map_toArray, List.map_cons, List.map_nil]); first | done | rfl | (simp only [List.length_drop, List.length_take]; rfl)) ?_; (refine (laws_markTable.calls k lox hix _ _ yl0 yl1 1 m1 xl0 xl1 w _ ?side1 ?side2 HA6.out).mono ?_); (case side1 => exact (by repeat (first | (with_reducible first | exact HB.out | apply below_alloc | apply pw_below_drewN | apply below_drew1 | refine below_set ?_ GEa.out | refine below_set ?_ GEb.out | refine below_set ?_ GEd.out | refine below_set ?_ GEe.out) | exact HB.out))); (case side2 => exact (show laws_markTable.TB _ w.heap.size lox hix (.slice Ax0 yl0.length cx0) (.slice Ax1 yl1.length cx1) yl0 yl1 from (by (with_reducible repeat (first | apply laws_markTable.TB.drewN | apply laws_markTable.TB.drew | apply laws_markTable.TB.alloc)); exact Hx.out))); rintro e w27 ⟨rfl, hM, hb, hkp⟩; refine ⟨_, rfl, ?_⟩; (try clear hcz26_a0); (try clear hfz26_a0); (try clear hcz26_a1); (try clear hfz26_a1); (try clear hcz26_b0); (try clear hfz26_b0); (try clear hcz26_b1); (try clear hfz26_b1); (try clear hcz26_d0); (try clear hfz26_d0); (try clear hcz26_d1); (try clear hfz26_d1); (try clear hcz26_e0); (try clear hfz26_e0); (try clear hcz26_e1); (try clear hfz26_e1); (try clear hnb26_a_b); (try clear hnb26_a_d); (try clear hnb26_a_e); (try clear hnb26_b_a); (try clear hnb26_b_d); (try clear hnb26_b_e); (try clear hnb26_d_a); (try clear hnb26_d_b); (try clear hnb26_d_e); (try clear hnb26_e_a); (try clear hnb26_e_b); (try clear hnb26_e_d); have n0_ := Aside0.mk (laws_markTable.TB.kept (show laws_markTable.TB _ w.heap.size los his (.slice As0 sl0.length cs0) (.slice As1 sl1.length cs1) sl0 sl1 from (by (with_reducible repeat (first | apply laws_markTable.TB.drewN | apply laws_markTable.TB.drew | apply laws_markTable.TB.alloc)); exact Hs.out)) hkp (fun k_ h1_ h2_ h3_ => by have h4_ := SOs_x.out; have h5_ := h3_.1; have h6_ := h3_.2; omega)); have n1_ := Aside0.mk (laws_markTable.TB.kept (show laws_markTable.TB _ w.heap.size log hig (.slice Ag0 gl0.length cg0) (.slice Ag1 gl1.length cg1) gl0 gl1 from (by (with_reducible repeat (first | apply laws_markTable.TB.drewN | apply laws_markTable.TB.drew | apply laws_markTable.TB.alloc)); exact Hg.out)) hkp (fun k_ h1_ h2_ h3_ => by have h4_ := SOx_g.out; have h5_ := h3_.1; have h6_ := h3_.2; omega)); have n2_ := Aside0.mk (blk_kept (g := ga) (o := (.cells #[.slice A0_0 l0_0.length c0_0, .slice A0_1 l0_1.length c0_1] 25 (0, 0))) (by (with_reducible repeat (first | refine blk_drewN ?_ _ | refine blk_drew ?_ | refine blk_alloc ?_ _)); exact BKa.out) hkp (fun h3_ => by have h4_ := SPx_a.out; have h5_ := h3_.1; have h6_ := h3_.2; omega)); have n3_ := Aside0.mk (blk_kept (g := gb) (o := (.cells #[.slice As0 sl0.length cs0, .slice As1 sl1.length cs1] 28 (0, 0))) (by (with_reducible repeat (first | refine blk_drewN ?_ _ | refine blk_drew ?_ | refine blk_alloc ?_ _)); exact BKb.out) hkp (fun h3_ => by have h4_ := SPx_b.out; have h5_ := h3_.1; have h6_ := h3_.2; omega)); have n4_ := Aside0.mk (blk_kept (g := gd) (o := (.cells #[.slice Ax0 yl0.length cx0, .slice Ax1 yl1.length cx1] 28 (0, 0))) (by (with_reducible repeat (first | refine blk_drewN ?_ _ | refine blk_drew ?_ | refine blk_alloc ?_ _)); exact BKd.out) hkp (fun h3_ => by have h4_ := SPx_d.out; have h5_ := h3_.1; have h6_ := h3_.2; omega)); have n5_ := Aside0.mk (blk_kept (g := ge) (o := (.cells #[.slice Ag0 gl0.length cg0, .slice Ag1 gl1.length cg1] 28 (0, 0))) (by (with_reducible repeat (first | refine blk_drewN ?_ _ | refine blk_drew ?_ | refine blk_alloc ?_ _)); exact BKe.out) hkp (fun h3_ => by have h4_ := SPx_e.out; have h5_ := h3_.1; have h6_ := h3_.2; omega)); have n6_ := Aside0.mk hb; clear Hs; clear Hg; clear BKa; clear BKb; clear BKd; clear BKe; clear HB; have Hs := n0_; have Hg := n1_; have BKa := n2_; have BKb := n3_; have BKd := n4_; have BKe := n5_; have HB := n6_; clear n0_ n1_ n2_ n3_ n4_ n5_ n6_; clear hM hb hkp; have hcz27_a0 : w27.cell? ⟨ga, 0, none⟩ = some (.slice A0_0 l0_0.length c0_0) := (blk_cell BKa.out 0).trans rfl; have hfz27_a0 := blk_frozen BKa.out 0; have hcz27_a1 : w27.cell? ⟨ga, 1, none⟩ = some (.slice A0_1 l0_1.length c0_1) := (blk_cell BKa.out 1).trans rfl; have hfz27_a1 := blk_frozen BKa.out 1; have hcz27_b0 : w27.cell? ⟨gb, 0, none⟩ = some (.slice As0 sl0.length cs0) := (blk_cell BKb.out 0).trans rfl; have hfz27_b0 := blk_frozen BKb.out 0; have hcz27_b1 : w27.cell? ⟨gb, 1, none⟩ = some (.slice As1 sl1.length cs1) := (blk_cell BKb.out 1).trans rfl; have hfz27_b1 := blk_frozen BKb.out 1; have hcz27_d0 : w27.cell? ⟨gd, 0, none⟩ = some (.slice Ax0 yl0.length cx0) := (blk_cell BKd.out 0).trans rfl; have hfz27_d0 := blk_frozen BKd.out 0; have hcz27_d1 : w27.cell? ⟨gd, 1, none⟩ = some (.slice Ax1 yl1.length cx1) := (blk_cell BKd.out 1).trans rfl; have hfz27_d1 := blk_frozen BKd.out 1; have hcz27_e0 : w27.cell? ⟨ge, 0, none⟩ = some (.slice Ag0 gl0.length cg0) := (blk_cell BKe.out 0).trans rfl; have hfz27_e0 := blk_frozen BKe.out 0; have hcz27_e1 : w27.cell? ⟨ge, 1, none⟩ = some (.slice Ag1 gl1.length cg1) := (blk_cell BKe.out 1).trans rfl; have hfz27_e1 := blk_frozen BKe.out 1; have hnb27_a_b := NBa_b.out; have hnb27_a_d := NBa_d.out; have hnb27_a_e := NBa_e.out; have hnb27_b_a := NBb_a.out; have hnb27_b_d := NBb_d.out; have hnb27_b_e := NBb_e.out; have hnb27_d_a := NBd_a.out; have hnb27_d_b := NBd_b.out; have hnb27_d_e := NBd_e.out; have hnb27_e_a := NBe_a.out; have hnb27_e_b := NBe_b.out; have hnb27_e_d := NBe_d.out) |
      (go_at_call 16; (refine (laws_eqTable.calls k _ _ gl0 _ _ gl1 _ _ sl0 _ _ sl1 true _ ?side1 ?side2 ?side3 ?side4 ?side5 ?side6 ?side7 ?side8 HA4.out).mono ?_); (case side1 => exact (laws_markTable.TB.c0 (show laws_markTable.TB _ w.heap.size log hig (.slice Ag0 gl0.length cg0) (.slice Ag1 gl1.length cg1) gl0 gl1 from (by (with_reducible repeat (first | apply laws_markTable.TB.drewN | apply laws_markTable.TB.drew | apply laws_markTable.TB.alloc)); exact Hg.out)))); (case side2 => exact HCg0.out); (case side3 => exact (laws_markTable.TB.c1 (show laws_markTable.TB _ w.heap.size log hig (.slice Ag0 gl0.length cg0) (.slice Ag1 gl1.length cg1) gl0 gl1 from (by (with_reducible repeat (first | apply laws_markTable.TB.drewN | apply laws_markTable.TB.drew | apply laws_markTable.TB.alloc)); exact Hg.out)))); (case side4 => exact HCg1.out); (case side5 => exact (laws_markTable.TB.c0 (show laws_markTable.TB _ w.heap.size los his (.slice As0 sl0.length cs0) (.slice As1 sl1.length cs1) sl0 sl1 from (by (with_reducible repeat (first | apply laws_markTable.TB.drewN | apply laws_markTable.TB.drew | apply laws_markTable.TB.alloc)); exact Hs.out)))); (case side6 => exact HCs0.out); (case side7 => exact (laws_markTable.TB.c1 (show laws_markTable.TB _ w.heap.size los his (.slice As0 sl0.length cs0) (.slice As1 sl1.length cs1) sl0 sl1 from (by (with_reducible repeat (first | apply laws_markTable.TB.drewN | apply laws_markTable.TB.drew | apply laws_markTable.TB.alloc)); exact Hs.out)))); (case side8 => exact HCs1.out); rintro e w29 ⟨rfl, hb⟩; (try clear hcz27_a0); (try clear hfz27_a0); (try clear hcz27_a1); (try clear hfz27_a1); (try clear hcz27_b0); (try clear hfz27_b0); (try clear hcz27_b1); (try clear hfz27_b1); (try clear hcz27_d0); (try clear hfz27_d0); (try clear hcz27_d1); (try clear hfz27_d1); (try clear hcz27_e0); (try clear hfz27_e0); (try clear hcz27_e1); (try clear hfz27_e1); (try clear hnb27_a_b); (try clear hnb27_a_d); (try clear hnb27_a_e); (try clear hnb27_b_a); (try clear hnb27_b_d); (try clear hnb27_b_e); (try clear hnb27_d_a); (try clear hnb27_d_b); (try clear hnb27_d_e); (try clear hnb27_e_a); (try clear hnb27_e_b); (try clear hnb27_e_d); have n0_ := Aside0.mk (laws_markTable.TB.below (show laws_markTable.TB _ w.heap.size los his (.slice As0 sl0.length cs0) (.slice As1 sl1.length cs1) sl0 sl1 from (by (with_reducible repeat (first | apply laws_markTable.TB.drewN | apply laws_markTable.TB.drew | apply laws_markTable.TB.alloc)); exact Hs.out)) hb); have n1_ := Aside0.mk (laws_markTable.TB.below (show laws_markTable.TB _ w.heap.size log hig (.slice Ag0 gl0.length cg0) (.slice Ag1 gl1.length cg1) gl0 gl1 from (by (with_reducible repeat (first | apply laws_markTable.TB.drewN | apply laws_markTable.TB.drew | apply laws_markTable.TB.alloc)); exact Hg.out)) hb); have n2_ := Aside0.mk (blk_below (g := ga) (o := (.cells #[.slice A0_0 l0_0.length c0_0, .slice A0_1 l0_1.length c0_1] 25 (0, 0))) (by (with_reducible repeat (first | refine blk_drewN ?_ _ | refine blk_drew ?_ | refine blk_alloc ?_ _)); exact BKa.out) hb); have n3_ := Aside0.mk (blk_below (g := gb) (o := (.cells #[.slice As0 sl0.length cs0, .slice As1 sl1.length cs1] 28 (0, 0))) (by (with_reducible repeat (first | refine blk_drewN ?_ _ | refine blk_drew ?_ | refine blk_alloc ?_ _)); exact BKb.out) hb); have n4_ := Aside0.mk (blk_below (g := gd) (o := (.cells #[.slice Ax0 yl0.length cx0, .slice Ax1 yl1.length cx1] 28 (0, 0))) (by (with_reducible repeat (first | refine blk_drewN ?_ _ | refine blk_drew ?_ | refine blk_alloc ?_ _)); exact BKd.out) hb); have n5_ := Aside0.mk (blk_below (g := ge) (o := (.cells #[.slice Ag0 gl0.length cg0, .slice Ag1 gl1.length cg1] 28 (0, 0))) (by (with_reducible repeat (first | refine blk_drewN ?_ _ | refine blk_drew ?_ | refine blk_alloc ?_ _)); exact BKe.out) hb); have n6_ := Aside0.mk (below_step (by repeat (first | (with_reducible first | exact HB.out | apply below_alloc | apply pw_below_drewN | apply below_drew1 | refine below_set ?_ GEa.out | refine below_set ?_ GEb.out | refine below_set ?_ GEd.out | refine below_set ?_ GEe.out) | exact HB.out)) hb); clear Hs; clear Hg; clear BKa; clear BKb; clear BKd; clear BKe; clear HB; have Hs := n0_; have Hg := n1_; have BKa := n2_; have BKb := n3_; have BKd := n4_; have BKe := n5_; have HB := n6_; clear n0_ n1_ n2_ n3_ n4_ n5_ n6_; clear hb; have hcz29_a0 : w29.cell? ⟨ga, 0, none⟩ = some (.slice A0_0 l0_0.length c0_0) := (blk_cell BKa.out 0).trans rfl; have hfz29_a0 := blk_frozen BKa.out 0; have hcz29_a1 : w29.cell? ⟨ga, 1, none⟩ = some (.slice A0_1 l0_1.length c0_1) := (blk_cell BKa.out 1).trans rfl; have hfz29_a1 := blk_frozen BKa.out 1; have hcz29_b0 : w29.cell? ⟨gb, 0, none⟩ = some (.slice As0 sl0.length cs0) := (blk_cell BKb.out 0).trans rfl; have hfz29_b0 := blk_frozen BKb.out 0; have hcz29_b1 : w29.cell? ⟨gb, 1, none⟩ = some (.slice As1 sl1.length cs1) := (blk_cell BKb.out 1).trans rfl; have hfz29_b1 := blk_frozen BKb.out 1; have hcz29_d0 : w29.cell? ⟨gd, 0, none⟩ = some (.slice Ax0 yl0.length cx0) := (blk_cell BKd.out 0).trans rfl; have hfz29_d0 := blk_frozen BKd.out 0; have hcz29_d1 : w29.cell? ⟨gd, 1, none⟩ = some (.slice Ax1 yl1.length cx1) := (blk_cell BKd.out 1).trans rfl; have hfz29_d1 := blk_frozen BKd.out 1; have hcz29_e0 : w29.cell? ⟨ge, 0, none⟩ = some (.slice Ag0 gl0.length cg0) := (blk_cell BKe.out 0).trans rfl; have hfz29_e0 := blk_frozen BKe.out 0; have hcz29_e1 : w29.cell? ⟨ge, 1, none⟩ = some (.slice Ag1 gl1.length cg1) := (blk_cell BKe.out 1).trans rfl; have hfz29_e1 := blk_frozen BKe.out 1; have hnb29_a_b := NBa_b.out; have hnb29_a_d := NBa_d.out; have hnb29_a_e := NBa_e.out; have hnb29_b_a := NBb_a.out; have hnb29_b_d := NBb_d.out; have hnb29_b_e := NBb_e.out; have hnb29_d_a := NBd_a.out; have hnb29_d_b := NBd_b.out; have hnb29_d_e := NBd_e.out; have hnb29_e_a := NBe_a.out; have hnb29_e_b := NBe_b.out; have hnb29_e_d := NBe_d.out) |
      ((with_reducible refine gate_callee (f := 31) rfl ?_); refine goesL_ (some 68) rfl rfl Try.func31 (by kernel_rfl) rfl #[.agg #[.slice Ag0 gl0.length cg0, .slice Ag1 gl1.length cg1], .int .i64 1] rfl (by (try simp only [List.map_toArray, List.map_cons, List.map_nil]); first | done | rfl | (simp only [List.length_drop, List.length_take]; rfl)) ?_; (refine (laws_markTable.calls k log hig _ _ gl0 gl1 1 t1 ml0 ml1 w _ ?side1 ?side2 HA7.out).mono ?_); (case side1 => exact (by repeat (first | (with_reducible first | exact HB.out | apply below_alloc | apply pw_below_drewN | apply below_drew1 | refine below_set ?_ GEa.out | refine below_set ?_ GEb.out | refine below_set ?_ GEd.out | refine below_set ?_ GEe.out) | exact HB.out))); (case side2 => exact (show laws_markTable.TB _ w.heap.size log hig (.slice Ag0 gl0.length cg0) (.slice Ag1 gl1.length cg1) gl0 gl1 from (by (with_reducible repeat (first | apply laws_markTable.TB.drewN | apply laws_markTable.TB.drew | apply laws_markTable.TB.alloc)); exact Hg.out))); rintro e w31 ⟨rfl, hM, hb, hkp⟩; refine ⟨_, rfl, ?_⟩; (try clear hcz29_a0); (try clear hfz29_a0); (try clear hcz29_a1); (try clear hfz29_a1); (try clear hcz29_b0); (try clear hfz29_b0); (try clear hcz29_b1); (try clear hfz29_b1); (try clear hcz29_d0); (try clear hfz29_d0); (try clear hcz29_d1); (try clear hfz29_d1); (try clear hcz29_e0); (try clear hfz29_e0); (try clear hcz29_e1); (try clear hfz29_e1); (try clear hnb29_a_b); (try clear hnb29_a_d); (try clear hnb29_a_e); (try clear hnb29_b_a); (try clear hnb29_b_d); (try clear hnb29_b_e); (try clear hnb29_d_a); (try clear hnb29_d_b); (try clear hnb29_d_e); (try clear hnb29_e_a); (try clear hnb29_e_b); (try clear hnb29_e_d); have n0_ := Aside0.mk (laws_markTable.TB.kept (show laws_markTable.TB _ w.heap.size los his (.slice As0 sl0.length cs0) (.slice As1 sl1.length cs1) sl0 sl1 from (by (with_reducible repeat (first | apply laws_markTable.TB.drewN | apply laws_markTable.TB.drew | apply laws_markTable.TB.alloc)); exact Hs.out)) hkp (fun k_ h1_ h2_ h3_ => by have h4_ := SOs_g.out; have h5_ := h3_.1; have h6_ := h3_.2; omega)); have n1_ := Aside0.mk (blk_kept (g := ga) (o := (.cells #[.slice A0_0 l0_0.length c0_0, .slice A0_1 l0_1.length c0_1] 25 (0, 0))) (by (with_reducible repeat (first | refine blk_drewN ?_ _ | refine blk_drew ?_ | refine blk_alloc ?_ _)); exact BKa.out) hkp (fun h3_ => by have h4_ := SPg_a.out; have h5_ := h3_.1; have h6_ := h3_.2; omega)); have n2_ := Aside0.mk (blk_kept (g := gb) (o := (.cells #[.slice As0 sl0.length cs0, .slice As1 sl1.length cs1] 28 (0, 0))) (by (with_reducible repeat (first | refine blk_drewN ?_ _ | refine blk_drew ?_ | refine blk_alloc ?_ _)); exact BKb.out) hkp (fun h3_ => by have h4_ := SPg_b.out; have h5_ := h3_.1; have h6_ := h3_.2; omega)); have n3_ := Aside0.mk (blk_kept (g := gd) (o := (.cells #[.slice Ax0 yl0.length cx0, .slice Ax1 yl1.length cx1] 28 (0, 0))) (by (with_reducible repeat (first | refine blk_drewN ?_ _ | refine blk_drew ?_ | refine blk_alloc ?_ _)); exact BKd.out) hkp (fun h3_ => by have h4_ := SPg_d.out; have h5_ := h3_.1; have h6_ := h3_.2; omega)); have n4_ := Aside0.mk (blk_kept (g := ge) (o := (.cells #[.slice Ag0 gl0.length cg0, .slice Ag1 gl1.length cg1] 28 (0, 0))) (by (with_reducible repeat (first | refine blk_drewN ?_ _ | refine blk_drew ?_ | refine blk_alloc ?_ _)); exact BKe.out) hkp (fun h3_ => by have h4_ := SPg_e.out; have h5_ := h3_.1; have h6_ := h3_.2; omega)); have n5_ := Aside0.mk hb; clear Hs; clear BKa; clear BKb; clear BKd; clear BKe; clear HB; have Hs := n0_; have BKa := n1_; have BKb := n2_; have BKd := n3_; have BKe := n4_; have HB := n5_; clear n0_ n1_ n2_ n3_ n4_ n5_; obtain ⟨lom, him, hM2⟩ : ∃ lo hi, laws_markTable.TB w31 w.heap.size lo hi _ _ ml0 ml1 := ⟨_, _, hM⟩; have EM0 := Aside0.mk (Kd.R_reads' hM2.1).1; have EM1 := Aside0.mk (Kd.S_reads' hM2.2.1).1; have Hm := Aside0.mk hM2; clear hM2; clear hM hb hkp; have hcz31_a0 : w31.cell? ⟨ga, 0, none⟩ = some (.slice A0_0 l0_0.length c0_0) := (blk_cell BKa.out 0).trans rfl; have hfz31_a0 := blk_frozen BKa.out 0; have hcz31_a1 : w31.cell? ⟨ga, 1, none⟩ = some (.slice A0_1 l0_1.length c0_1) := (blk_cell BKa.out 1).trans rfl; have hfz31_a1 := blk_frozen BKa.out 1; have hcz31_b0 : w31.cell? ⟨gb, 0, none⟩ = some (.slice As0 sl0.length cs0) := (blk_cell BKb.out 0).trans rfl; have hfz31_b0 := blk_frozen BKb.out 0; have hcz31_b1 : w31.cell? ⟨gb, 1, none⟩ = some (.slice As1 sl1.length cs1) := (blk_cell BKb.out 1).trans rfl; have hfz31_b1 := blk_frozen BKb.out 1; have hcz31_d0 : w31.cell? ⟨gd, 0, none⟩ = some (.slice Ax0 yl0.length cx0) := (blk_cell BKd.out 0).trans rfl; have hfz31_d0 := blk_frozen BKd.out 0; have hcz31_d1 : w31.cell? ⟨gd, 1, none⟩ = some (.slice Ax1 yl1.length cx1) := (blk_cell BKd.out 1).trans rfl; have hfz31_d1 := blk_frozen BKd.out 1; have hcz31_e0 : w31.cell? ⟨ge, 0, none⟩ = some (.slice Ag0 gl0.length cg0) := (blk_cell BKe.out 0).trans rfl; have hfz31_e0 := blk_frozen BKe.out 0; have hcz31_e1 : w31.cell? ⟨ge, 1, none⟩ = some (.slice Ag1 gl1.length cg1) := (blk_cell BKe.out 1).trans rfl; have hfz31_e1 := blk_frozen BKe.out 1; have hnb31_a_b := NBa_b.out; have hnb31_a_d := NBa_d.out; have hnb31_a_e := NBa_e.out; have hnb31_b_a := NBb_a.out; have hnb31_b_d := NBb_d.out; have hnb31_b_e := NBb_e.out; have hnb31_d_a := NBd_a.out; have hnb31_d_b := NBd_b.out; have hnb31_d_e := NBd_e.out; have hnb31_e_a := NBe_a.out; have hnb31_e_b := NBe_b.out; have hnb31_e_d := NBe_d.out) |
      ((with_reducible refine gate_callee (f := 32) rfl ?_); refine goesL_ (some 71) rfl rfl Try.func32 (by kernel_rfl) rfl #[.agg #[.slice Ag0 ml0.length cg0, .slice Ag1 ml1.length cg1], .int .i64 1] rfl (by (try simp only [List.map_toArray, List.map_cons, List.map_nil]); first | done | (rw [← EM0.out, ← EM1.out]; rfl) | rfl | (simp only [List.length_drop, List.length_take]; rfl)) ?_; (refine (laws_heldTable.calls k _ _ ml0 _ _ ml1 1 t1 _ ?side1 ?side2 ?side3 ?side4 HA8.out).mono ?_); (case side1 => exact (laws_markTable.TB.c0 (show laws_markTable.TB _ w.heap.size lom him (.slice Ag0 gl0.length cg0) (.slice Ag1 gl1.length cg1) ml0 ml1 from (by (with_reducible repeat (first | apply laws_markTable.TB.drewN | apply laws_markTable.TB.drew | apply laws_markTable.TB.alloc)); exact Hm.out)))); (case side2 => exact (EM0.out ▸ HCg0.out)); (case side3 => exact (laws_markTable.TB.c1 (show laws_markTable.TB _ w.heap.size lom him (.slice Ag0 gl0.length cg0) (.slice Ag1 gl1.length cg1) ml0 ml1 from (by (with_reducible repeat (first | apply laws_markTable.TB.drewN | apply laws_markTable.TB.drew | apply laws_markTable.TB.alloc)); exact Hm.out)))); (case side4 => exact (EM1.out ▸ HCg1.out)); rintro e w33 ⟨rfl, hb⟩; refine ⟨_, rfl, ?_⟩; (try clear hcz31_a0); (try clear hfz31_a0); (try clear hcz31_a1); (try clear hfz31_a1); (try clear hcz31_b0); (try clear hfz31_b0); (try clear hcz31_b1); (try clear hfz31_b1); (try clear hcz31_d0); (try clear hfz31_d0); (try clear hcz31_d1); (try clear hfz31_d1); (try clear hcz31_e0); (try clear hfz31_e0); (try clear hcz31_e1); (try clear hfz31_e1); (try clear hnb31_a_b); (try clear hnb31_a_d); (try clear hnb31_a_e); (try clear hnb31_b_a); (try clear hnb31_b_d); (try clear hnb31_b_e); (try clear hnb31_d_a); (try clear hnb31_d_b); (try clear hnb31_d_e); (try clear hnb31_e_a); (try clear hnb31_e_b); (try clear hnb31_e_d); have n0_ := Aside0.mk (laws_markTable.TB.below (show laws_markTable.TB _ w.heap.size los his (.slice As0 sl0.length cs0) (.slice As1 sl1.length cs1) sl0 sl1 from (by (with_reducible repeat (first | apply laws_markTable.TB.drewN | apply laws_markTable.TB.drew | apply laws_markTable.TB.alloc)); exact Hs.out)) hb); have n1_ := Aside0.mk (laws_markTable.TB.below (show laws_markTable.TB _ w.heap.size lom him (.slice Ag0 gl0.length cg0) (.slice Ag1 gl1.length cg1) ml0 ml1 from (by (with_reducible repeat (first | apply laws_markTable.TB.drewN | apply laws_markTable.TB.drew | apply laws_markTable.TB.alloc)); exact Hm.out)) hb); have n2_ := Aside0.mk (blk_below (g := ga) (o := (.cells #[.slice A0_0 l0_0.length c0_0, .slice A0_1 l0_1.length c0_1] 25 (0, 0))) (by (with_reducible repeat (first | refine blk_drewN ?_ _ | refine blk_drew ?_ | refine blk_alloc ?_ _)); exact BKa.out) hb); have n3_ := Aside0.mk (blk_below (g := gb) (o := (.cells #[.slice As0 sl0.length cs0, .slice As1 sl1.length cs1] 28 (0, 0))) (by (with_reducible repeat (first | refine blk_drewN ?_ _ | refine blk_drew ?_ | refine blk_alloc ?_ _)); exact BKb.out) hb); have n4_ := Aside0.mk (blk_below (g := gd) (o := (.cells #[.slice Ax0 yl0.length cx0, .slice Ax1 yl1.length cx1] 28 (0, 0))) (by (with_reducible repeat (first | refine blk_drewN ?_ _ | refine blk_drew ?_ | refine blk_alloc ?_ _)); exact BKd.out) hb); have n5_ := Aside0.mk (blk_below (g := ge) (o := (.cells #[.slice Ag0 gl0.length cg0, .slice Ag1 gl1.length cg1] 28 (0, 0))) (by (with_reducible repeat (first | refine blk_drewN ?_ _ | refine blk_drew ?_ | refine blk_alloc ?_ _)); exact BKe.out) hb); have n6_ := Aside0.mk (below_step (by repeat (first | (with_reducible first | exact HB.out | apply below_alloc | apply pw_below_drewN | apply below_drew1 | refine below_set ?_ GEa.out | refine below_set ?_ GEb.out | refine below_set ?_ GEd.out | refine below_set ?_ GEe.out) | exact HB.out)) hb); clear Hs; clear Hm; clear BKa; clear BKb; clear BKd; clear BKe; clear HB; have Hs := n0_; have Hm := n1_; have BKa := n2_; have BKb := n3_; have BKd := n4_; have BKe := n5_; have HB := n6_; clear n0_ n1_ n2_ n3_ n4_ n5_ n6_; clear hb; have hcz33_a0 : w33.cell? ⟨ga, 0, none⟩ = some (.slice A0_0 l0_0.length c0_0) := (blk_cell BKa.out 0).trans rfl; have hfz33_a0 := blk_frozen BKa.out 0; have hcz33_a1 : w33.cell? ⟨ga, 1, none⟩ = some (.slice A0_1 l0_1.length c0_1) := (blk_cell BKa.out 1).trans rfl; have hfz33_a1 := blk_frozen BKa.out 1; have hcz33_b0 : w33.cell? ⟨gb, 0, none⟩ = some (.slice As0 sl0.length cs0) := (blk_cell BKb.out 0).trans rfl; have hfz33_b0 := blk_frozen BKb.out 0; have hcz33_b1 : w33.cell? ⟨gb, 1, none⟩ = some (.slice As1 sl1.length cs1) := (blk_cell BKb.out 1).trans rfl; have hfz33_b1 := blk_frozen BKb.out 1; have hcz33_d0 : w33.cell? ⟨gd, 0, none⟩ = some (.slice Ax0 yl0.length cx0) := (blk_cell BKd.out 0).trans rfl; have hfz33_d0 := blk_frozen BKd.out 0; have hcz33_d1 : w33.cell? ⟨gd, 1, none⟩ = some (.slice Ax1 yl1.length cx1) := (blk_cell BKd.out 1).trans rfl; have hfz33_d1 := blk_frozen BKd.out 1; have hcz33_e0 : w33.cell? ⟨ge, 0, none⟩ = some (.slice Ag0 gl0.length cg0) := (blk_cell BKe.out 0).trans rfl; have hfz33_e0 := blk_frozen BKe.out 0; have hcz33_e1 : w33.cell? ⟨ge, 1, none⟩ = some (.slice Ag1 gl1.length cg1) := (blk_cell BKe.out 1).trans rfl; have hfz33_e1 := blk_frozen BKe.out 1; have hnb33_a_b := NBa_b.out; have hnb33_a_d := NBa_d.out; have hnb33_a_e := NBa_e.out; have hnb33_b_a := NBb_a.out; have hnb33_b_d := NBb_d.out; have hnb33_b_e := NBb_e.out; have hnb33_d_a := NBd_a.out; have hnb33_d_b := NBd_b.out; have hnb33_d_e := NBd_e.out; have hnb33_e_a := NBe_a.out; have hnb33_e_b := NBe_b.out; have hnb33_e_d := NBe_d.out) |
      ((with_reducible refine gate_callee (f := 14) rfl ?_); refine goesL_ (some 79) rfl rfl Try.func14 (by kernel_rfl) rfl #[.agg #[.slice A0_0 l0_0.length c0_0, .slice A0_1 l0_1.length c0_1]] rfl (by (try simp only [List.map_toArray, List.map_cons, List.map_nil]); first | done | rfl | (simp only [List.length_drop, List.length_take]; rfl)) ?_; (refine (laws_toTable.calls k _ _ l0_0 _ _ l0_1 yl0 yl1 _ ?side1 ?side2 ?side3 ?side4 HA1.out).mono ?_); (case side1 => exact (Kd.C_below HR0_0.out (by repeat (first | (with_reducible first | exact HB.out | apply below_alloc | apply pw_below_drewN | apply below_drew1 | refine below_set ?_ GEa.out | refine below_set ?_ GEb.out | refine below_set ?_ GEd.out | refine below_set ?_ GEe.out) | exact HB.out)))); (case side2 => exact HC0_0.out); (case side3 => exact (Kd.C_below HR0_1.out (by repeat (first | (with_reducible first | exact HB.out | apply below_alloc | apply pw_below_drewN | apply below_drew1 | refine below_set ?_ GEa.out | refine below_set ?_ GEb.out | refine below_set ?_ GEd.out | refine below_set ?_ GEe.out) | exact HB.out)))); (case side4 => exact HC0_1.out); rintro e w35 ⟨v0_, v1_, rfl, ho0, ho1, hb⟩; refine ⟨_, rfl, ?_⟩; obtain ⟨loz, hiz, hT, hs0, hs1, hs2, hs3, ht0, ht1⟩ : ∃ lo hi, laws_markTable.TB w35 w.heap.size lo hi v0_ v1_ yl0 yl1 ∧ (ga < lo ∨ hi ≤ ga) ∧ (gb < lo ∨ hi ≤ gb) ∧ (gd < lo ∨ hi ≤ gd) ∧ (ge < lo ∨ hi ≤ ge) ∧ his ≤ lo ∧ him ≤ lo := ⟨_, _, laws_markTable.TB.new ho0 ho1 (below_size (by repeat (first | (with_reducible first | exact HB.out | apply below_alloc | apply pw_below_drewN | apply below_drew1 | refine below_set ?_ GEa.out | refine below_set ?_ GEb.out | refine below_set ?_ GEd.out | refine below_set ?_ GEe.out) | exact HB.out))) hb, .inl (blk_lt (g := ga) (o := (.cells #[.slice A0_0 l0_0.length c0_0, .slice A0_1 l0_1.length c0_1] 25 (0, 0))) (by (with_reducible repeat (first | refine blk_drewN ?_ _ | refine blk_drew ?_ | refine blk_alloc ?_ _)); exact BKa.out)), .inl (blk_lt (g := gb) (o := (.cells #[.slice As0 sl0.length cs0, .slice As1 sl1.length cs1] 28 (0, 0))) (by (with_reducible repeat (first | refine blk_drewN ?_ _ | refine blk_drew ?_ | refine blk_alloc ?_ _)); exact BKb.out)), .inl (blk_lt (g := gd) (o := (.cells #[.slice Ax0 yl0.length cx0, .slice Ax1 yl1.length cx1] 28 (0, 0))) (by (with_reducible repeat (first | refine blk_drewN ?_ _ | refine blk_drew ?_ | refine blk_alloc ?_ _)); exact BKd.out)), .inl (blk_lt (g := ge) (o := (.cells #[.slice Ag0 gl0.length cg0, .slice Ag1 gl1.length cg1] 28 (0, 0))) (by (with_reducible repeat (first | refine blk_drewN ?_ _ | refine blk_drew ?_ | refine blk_alloc ?_ _)); exact BKe.out)), (show laws_markTable.TB _ w.heap.size los his (.slice As0 sl0.length cs0) (.slice As1 sl1.length cs1) sl0 sl1 from (by (with_reducible repeat (first | apply laws_markTable.TB.drewN | apply laws_markTable.TB.drew | apply laws_markTable.TB.alloc)); exact Hs.out)).2.2.2, (show laws_markTable.TB _ w.heap.size lom him (.slice Ag0 gl0.length cg0) (.slice Ag1 gl1.length cg1) ml0 ml1 from (by (with_reducible repeat (first | apply laws_markTable.TB.drewN | apply laws_markTable.TB.drew | apply laws_markTable.TB.alloc)); exact Hm.out)).2.2.2⟩; clear ho0 ho1; have SPz_a := Aside0.mk hs0; have SPz_b := Aside0.mk hs1; have SPz_d := Aside0.mk hs2; have SPz_e := Aside0.mk hs3; have SOs_z := Aside0.mk ht0; have SOm_z := Aside0.mk ht1; clear hs0 hs1 hs2 hs3 ht0 ht1; (try clear hcz33_a0); (try clear hfz33_a0); (try clear hcz33_a1); (try clear hfz33_a1); (try clear hcz33_b0); (try clear hfz33_b0); (try clear hcz33_b1); (try clear hfz33_b1); (try clear hcz33_d0); (try clear hfz33_d0); (try clear hcz33_d1); (try clear hfz33_d1); (try clear hcz33_e0); (try clear hfz33_e0); (try clear hcz33_e1); (try clear hfz33_e1); (try clear hnb33_a_b); (try clear hnb33_a_d); (try clear hnb33_a_e); (try clear hnb33_b_a); (try clear hnb33_b_d); (try clear hnb33_b_e); (try clear hnb33_d_a); (try clear hnb33_d_b); (try clear hnb33_d_e); (try clear hnb33_e_a); (try clear hnb33_e_b); (try clear hnb33_e_d); have n0_ := Aside0.mk (laws_markTable.TB.below (show laws_markTable.TB _ w.heap.size los his (.slice As0 sl0.length cs0) (.slice As1 sl1.length cs1) sl0 sl1 from (by (with_reducible repeat (first | apply laws_markTable.TB.drewN | apply laws_markTable.TB.drew | apply laws_markTable.TB.alloc)); exact Hs.out)) hb); have n1_ := Aside0.mk (laws_markTable.TB.below (show laws_markTable.TB _ w.heap.size lom him (.slice Ag0 gl0.length cg0) (.slice Ag1 gl1.length cg1) ml0 ml1 from (by (with_reducible repeat (first | apply laws_markTable.TB.drewN | apply laws_markTable.TB.drew | apply laws_markTable.TB.alloc)); exact Hm.out)) hb); have n2_ := Aside0.mk (blk_below (g := ga) (o := (.cells #[.slice A0_0 l0_0.length c0_0, .slice A0_1 l0_1.length c0_1] 25 (0, 0))) (by (with_reducible repeat (first | refine blk_drewN ?_ _ | refine blk_drew ?_ | refine blk_alloc ?_ _)); exact BKa.out) hb); have n3_ := Aside0.mk (blk_below (g := gb) (o := (.cells #[.slice As0 sl0.length cs0, .slice As1 sl1.length cs1] 28 (0, 0))) (by (with_reducible repeat (first | refine blk_drewN ?_ _ | refine blk_drew ?_ | refine blk_alloc ?_ _)); exact BKb.out) hb); have n4_ := Aside0.mk (blk_below (g := gd) (o := (.cells #[.slice Ax0 yl0.length cx0, .slice Ax1 yl1.length cx1] 28 (0, 0))) (by (with_reducible repeat (first | refine blk_drewN ?_ _ | refine blk_drew ?_ | refine blk_alloc ?_ _)); exact BKd.out) hb); have n5_ := Aside0.mk (blk_below (g := ge) (o := (.cells #[.slice Ag0 gl0.length cg0, .slice Ag1 gl1.length cg1] 28 (0, 0))) (by (with_reducible repeat (first | refine blk_drewN ?_ _ | refine blk_drew ?_ | refine blk_alloc ?_ _)); exact BKe.out) hb); have n6_ := Aside0.mk (below_step (by repeat (first | (with_reducible first | exact HB.out | apply below_alloc | apply pw_below_drewN | apply below_drew1 | refine below_set ?_ GEa.out | refine below_set ?_ GEb.out | refine below_set ?_ GEd.out | refine below_set ?_ GEe.out) | exact HB.out)) hb); clear Hs; clear Hm; clear BKa; clear BKb; clear BKd; clear BKe; clear HB; have Hs := n0_; have Hm := n1_; have BKa := n2_; have BKb := n3_; have BKd := n4_; have BKe := n5_; have HB := n6_; clear n0_ n1_ n2_ n3_ n4_ n5_ n6_; have Hz := Aside0.mk hT; clear hT; obtain ⟨Az0, cz0, Az1, cz1, e1_, e2_, hc0_, hc1_⟩ := laws_markTable.TB.shape Hz.out; subst e1_ e2_; have HCz0 := Aside0.mk hc0_; have HCz1 := Aside0.mk hc1_; clear hc0_ hc1_; clear hb; have hcz35_a0 : w35.cell? ⟨ga, 0, none⟩ = some (.slice A0_0 l0_0.length c0_0) := (blk_cell BKa.out 0).trans rfl; have hfz35_a0 := blk_frozen BKa.out 0; have hcz35_a1 : w35.cell? ⟨ga, 1, none⟩ = some (.slice A0_1 l0_1.length c0_1) := (blk_cell BKa.out 1).trans rfl; have hfz35_a1 := blk_frozen BKa.out 1; have hcz35_b0 : w35.cell? ⟨gb, 0, none⟩ = some (.slice As0 sl0.length cs0) := (blk_cell BKb.out 0).trans rfl; have hfz35_b0 := blk_frozen BKb.out 0; have hcz35_b1 : w35.cell? ⟨gb, 1, none⟩ = some (.slice As1 sl1.length cs1) := (blk_cell BKb.out 1).trans rfl; have hfz35_b1 := blk_frozen BKb.out 1; have hcz35_d0 : w35.cell? ⟨gd, 0, none⟩ = some (.slice Ax0 yl0.length cx0) := (blk_cell BKd.out 0).trans rfl; have hfz35_d0 := blk_frozen BKd.out 0; have hcz35_d1 : w35.cell? ⟨gd, 1, none⟩ = some (.slice Ax1 yl1.length cx1) := (blk_cell BKd.out 1).trans rfl; have hfz35_d1 := blk_frozen BKd.out 1; have hcz35_e0 : w35.cell? ⟨ge, 0, none⟩ = some (.slice Ag0 gl0.length cg0) := (blk_cell BKe.out 0).trans rfl; have hfz35_e0 := blk_frozen BKe.out 0; have hcz35_e1 : w35.cell? ⟨ge, 1, none⟩ = some (.slice Ag1 gl1.length cg1) := (blk_cell BKe.out 1).trans rfl; have hfz35_e1 := blk_frozen BKe.out 1; have hnb35_a_b := NBa_b.out; have hnb35_a_d := NBa_d.out; have hnb35_a_e := NBa_e.out; have hnb35_b_a := NBb_a.out; have hnb35_b_d := NBb_d.out; have hnb35_b_e := NBb_e.out; have hnb35_d_a := NBd_a.out; have hnb35_d_b := NBd_b.out; have hnb35_d_e := NBd_e.out; have hnb35_e_a := NBe_a.out; have hnb35_e_b := NBe_b.out; have hnb35_e_d := NBe_d.out) |
      ((with_reducible refine gate_callee (f := 30) rfl ?_); refine goesL_ (some 81) rfl rfl Try.func30 (by kernel_rfl) rfl #[.agg #[.slice Az0 yl0.length cz0, .slice Az1 yl1.length cz1], .int .i64 a1] rfl (by (try simp only [List.map_toArray, List.map_cons, List.map_nil]); first | done | rfl | (simp only [List.length_drop, List.length_take]; rfl)) ?_; (refine (impl_WithRise.calls k _ _ yl0 _ _ yl1 a1 gl0 gl1 gc _ ?side1 ?side2 ?side3 ?side4 HA3.out).mono ?_); (case side1 => exact (laws_markTable.TB.c0 (show laws_markTable.TB _ w.heap.size loz hiz (.slice Az0 yl0.length cz0) (.slice Az1 yl1.length cz1) yl0 yl1 from (by (with_reducible repeat (first | apply laws_markTable.TB.drewN | apply laws_markTable.TB.drew | apply laws_markTable.TB.alloc)); exact Hz.out)))); (case side2 => exact HCz0.out); (case side3 => exact (laws_markTable.TB.c1 (show laws_markTable.TB _ w.heap.size loz hiz (.slice Az0 yl0.length cz0) (.slice Az1 yl1.length cz1) yl0 yl1 from (by (with_reducible repeat (first | apply laws_markTable.TB.drewN | apply laws_markTable.TB.drew | apply laws_markTable.TB.alloc)); exact Hz.out)))); (case side4 => exact HCz1.out); rintro e w37 ⟨v0_, v1_, rfl, ho0, ho1, hb⟩; refine ⟨_, rfl, ?_⟩; obtain ⟨loh, hih, hT, hs0, hs1, hs2, hs3, ht0, ht1⟩ : ∃ lo hi, laws_markTable.TB w37 w.heap.size lo hi v0_ v1_ gl0 gl1 ∧ (ga < lo ∨ hi ≤ ga) ∧ (gb < lo ∨ hi ≤ gb) ∧ (gd < lo ∨ hi ≤ gd) ∧ (ge < lo ∨ hi ≤ ge) ∧ his ≤ lo ∧ him ≤ lo := ⟨_, _, laws_markTable.TB.new ho0 ho1 (below_size (by repeat (first | (with_reducible first | exact HB.out | apply below_alloc | apply pw_below_drewN | apply below_drew1 | refine below_set ?_ GEa.out | refine below_set ?_ GEb.out | refine below_set ?_ GEd.out | refine below_set ?_ GEe.out) | exact HB.out))) hb, .inl (blk_lt (g := ga) (o := (.cells #[.slice A0_0 l0_0.length c0_0, .slice A0_1 l0_1.length c0_1] 25 (0, 0))) (by (with_reducible repeat (first | refine blk_drewN ?_ _ | refine blk_drew ?_ | refine blk_alloc ?_ _)); exact BKa.out)), .inl (blk_lt (g := gb) (o := (.cells #[.slice As0 sl0.length cs0, .slice As1 sl1.length cs1] 28 (0, 0))) (by (with_reducible repeat (first | refine blk_drewN ?_ _ | refine blk_drew ?_ | refine blk_alloc ?_ _)); exact BKb.out)), .inl (blk_lt (g := gd) (o := (.cells #[.slice Ax0 yl0.length cx0, .slice Ax1 yl1.length cx1] 28 (0, 0))) (by (with_reducible repeat (first | refine blk_drewN ?_ _ | refine blk_drew ?_ | refine blk_alloc ?_ _)); exact BKd.out)), .inl (blk_lt (g := ge) (o := (.cells #[.slice Ag0 gl0.length cg0, .slice Ag1 gl1.length cg1] 28 (0, 0))) (by (with_reducible repeat (first | refine blk_drewN ?_ _ | refine blk_drew ?_ | refine blk_alloc ?_ _)); exact BKe.out)), (show laws_markTable.TB _ w.heap.size los his (.slice As0 sl0.length cs0) (.slice As1 sl1.length cs1) sl0 sl1 from (by (with_reducible repeat (first | apply laws_markTable.TB.drewN | apply laws_markTable.TB.drew | apply laws_markTable.TB.alloc)); exact Hs.out)).2.2.2, (show laws_markTable.TB _ w.heap.size lom him (.slice Ag0 gl0.length cg0) (.slice Ag1 gl1.length cg1) ml0 ml1 from (by (with_reducible repeat (first | apply laws_markTable.TB.drewN | apply laws_markTable.TB.drew | apply laws_markTable.TB.alloc)); exact Hm.out)).2.2.2⟩; clear ho0 ho1; have SPh_a := Aside0.mk hs0; have SPh_b := Aside0.mk hs1; have SPh_d := Aside0.mk hs2; have SPh_e := Aside0.mk hs3; have SOs_h := Aside0.mk ht0; have SOm_h := Aside0.mk ht1; clear hs0 hs1 hs2 hs3 ht0 ht1; (try clear hcz35_a0); (try clear hfz35_a0); (try clear hcz35_a1); (try clear hfz35_a1); (try clear hcz35_b0); (try clear hfz35_b0); (try clear hcz35_b1); (try clear hfz35_b1); (try clear hcz35_d0); (try clear hfz35_d0); (try clear hcz35_d1); (try clear hfz35_d1); (try clear hcz35_e0); (try clear hfz35_e0); (try clear hcz35_e1); (try clear hfz35_e1); (try clear hnb35_a_b); (try clear hnb35_a_d); (try clear hnb35_a_e); (try clear hnb35_b_a); (try clear hnb35_b_d); (try clear hnb35_b_e); (try clear hnb35_d_a); (try clear hnb35_d_b); (try clear hnb35_d_e); (try clear hnb35_e_a); (try clear hnb35_e_b); (try clear hnb35_e_d); have n0_ := Aside0.mk (laws_markTable.TB.below (show laws_markTable.TB _ w.heap.size los his (.slice As0 sl0.length cs0) (.slice As1 sl1.length cs1) sl0 sl1 from (by (with_reducible repeat (first | apply laws_markTable.TB.drewN | apply laws_markTable.TB.drew | apply laws_markTable.TB.alloc)); exact Hs.out)) hb); have n1_ := Aside0.mk (laws_markTable.TB.below (show laws_markTable.TB _ w.heap.size lom him (.slice Ag0 gl0.length cg0) (.slice Ag1 gl1.length cg1) ml0 ml1 from (by (with_reducible repeat (first | apply laws_markTable.TB.drewN | apply laws_markTable.TB.drew | apply laws_markTable.TB.alloc)); exact Hm.out)) hb); have n2_ := Aside0.mk (blk_below (g := ga) (o := (.cells #[.slice A0_0 l0_0.length c0_0, .slice A0_1 l0_1.length c0_1] 25 (0, 0))) (by (with_reducible repeat (first | refine blk_drewN ?_ _ | refine blk_drew ?_ | refine blk_alloc ?_ _)); exact BKa.out) hb); have n3_ := Aside0.mk (blk_below (g := gb) (o := (.cells #[.slice As0 sl0.length cs0, .slice As1 sl1.length cs1] 28 (0, 0))) (by (with_reducible repeat (first | refine blk_drewN ?_ _ | refine blk_drew ?_ | refine blk_alloc ?_ _)); exact BKb.out) hb); have n4_ := Aside0.mk (blk_below (g := gd) (o := (.cells #[.slice Ax0 yl0.length cx0, .slice Ax1 yl1.length cx1] 28 (0, 0))) (by (with_reducible repeat (first | refine blk_drewN ?_ _ | refine blk_drew ?_ | refine blk_alloc ?_ _)); exact BKd.out) hb); have n5_ := Aside0.mk (blk_below (g := ge) (o := (.cells #[.slice Ag0 gl0.length cg0, .slice Ag1 gl1.length cg1] 28 (0, 0))) (by (with_reducible repeat (first | refine blk_drewN ?_ _ | refine blk_drew ?_ | refine blk_alloc ?_ _)); exact BKe.out) hb); have n6_ := Aside0.mk (below_step (by repeat (first | (with_reducible first | exact HB.out | apply below_alloc | apply pw_below_drewN | apply below_drew1 | refine below_set ?_ GEa.out | refine below_set ?_ GEb.out | refine below_set ?_ GEd.out | refine below_set ?_ GEe.out) | exact HB.out)) hb); clear Hs; clear Hm; clear BKa; clear BKb; clear BKd; clear BKe; clear HB; have Hs := n0_; have Hm := n1_; have BKa := n2_; have BKb := n3_; have BKd := n4_; have BKe := n5_; have HB := n6_; clear n0_ n1_ n2_ n3_ n4_ n5_ n6_; have Hh := Aside0.mk hT; clear hT; obtain ⟨Ah0, ch0, Ah1, ch1, e1_, e2_, hc0_, hc1_⟩ := laws_markTable.TB.shape Hh.out; subst e1_ e2_; have HCh0 := Aside0.mk hc0_; have HCh1 := Aside0.mk hc1_; clear hc0_ hc1_; clear hb; have hcz37_a0 : w37.cell? ⟨ga, 0, none⟩ = some (.slice A0_0 l0_0.length c0_0) := (blk_cell BKa.out 0).trans rfl; have hfz37_a0 := blk_frozen BKa.out 0; have hcz37_a1 : w37.cell? ⟨ga, 1, none⟩ = some (.slice A0_1 l0_1.length c0_1) := (blk_cell BKa.out 1).trans rfl; have hfz37_a1 := blk_frozen BKa.out 1; have hcz37_b0 : w37.cell? ⟨gb, 0, none⟩ = some (.slice As0 sl0.length cs0) := (blk_cell BKb.out 0).trans rfl; have hfz37_b0 := blk_frozen BKb.out 0; have hcz37_b1 : w37.cell? ⟨gb, 1, none⟩ = some (.slice As1 sl1.length cs1) := (blk_cell BKb.out 1).trans rfl; have hfz37_b1 := blk_frozen BKb.out 1; have hcz37_d0 : w37.cell? ⟨gd, 0, none⟩ = some (.slice Ax0 yl0.length cx0) := (blk_cell BKd.out 0).trans rfl; have hfz37_d0 := blk_frozen BKd.out 0; have hcz37_d1 : w37.cell? ⟨gd, 1, none⟩ = some (.slice Ax1 yl1.length cx1) := (blk_cell BKd.out 1).trans rfl; have hfz37_d1 := blk_frozen BKd.out 1; have hcz37_e0 : w37.cell? ⟨ge, 0, none⟩ = some (.slice Ag0 gl0.length cg0) := (blk_cell BKe.out 0).trans rfl; have hfz37_e0 := blk_frozen BKe.out 0; have hcz37_e1 : w37.cell? ⟨ge, 1, none⟩ = some (.slice Ag1 gl1.length cg1) := (blk_cell BKe.out 1).trans rfl; have hfz37_e1 := blk_frozen BKe.out 1; have hnb37_a_b := NBa_b.out; have hnb37_a_d := NBa_d.out; have hnb37_a_e := NBa_e.out; have hnb37_b_a := NBb_a.out; have hnb37_b_d := NBb_d.out; have hnb37_b_e := NBb_e.out; have hnb37_d_a := NBd_a.out; have hnb37_d_b := NBd_b.out; have hnb37_d_e := NBd_e.out; have hnb37_e_a := NBe_a.out; have hnb37_e_b := NBe_b.out; have hnb37_e_d := NBe_d.out) |
      ((with_reducible refine gate_dst (N := 14) rfl ?_); refine box_event ?hg (N := 14) ?hd (cs := #[.slice none 0 0, .slice none 0 0]) (t := 28) ?hr ?_; (case hd => rfl); (case hg => rfl); (case hr => first | (go_simp; done) | (go_simp; rfl)); intro gf hg w39 hbox hb; (try clear hcz37_a0); (try clear hfz37_a0); (try clear hcz37_a1); (try clear hfz37_a1); (try clear hcz37_b0); (try clear hfz37_b0); (try clear hcz37_b1); (try clear hfz37_b1); (try clear hcz37_d0); (try clear hfz37_d0); (try clear hcz37_d1); (try clear hfz37_d1); (try clear hcz37_e0); (try clear hfz37_e0); (try clear hcz37_e1); (try clear hfz37_e1); (try clear hnb37_a_b); (try clear hnb37_a_d); (try clear hnb37_a_e); (try clear hnb37_b_a); (try clear hnb37_b_d); (try clear hnb37_b_e); (try clear hnb37_d_a); (try clear hnb37_d_b); (try clear hnb37_d_e); (try clear hnb37_e_a); (try clear hnb37_e_b); (try clear hnb37_e_d); have n0_ := Aside0.mk (laws_markTable.TB.below (show laws_markTable.TB _ w.heap.size los his (.slice As0 sl0.length cs0) (.slice As1 sl1.length cs1) sl0 sl1 from (by (with_reducible repeat (first | apply laws_markTable.TB.drewN | apply laws_markTable.TB.drew | apply laws_markTable.TB.alloc)); exact Hs.out)) hb); have n1_ := Aside0.mk (laws_markTable.TB.below (show laws_markTable.TB _ w.heap.size lom him (.slice Ag0 gl0.length cg0) (.slice Ag1 gl1.length cg1) ml0 ml1 from (by (with_reducible repeat (first | apply laws_markTable.TB.drewN | apply laws_markTable.TB.drew | apply laws_markTable.TB.alloc)); exact Hm.out)) hb); have n2_ := Aside0.mk (laws_markTable.TB.below (show laws_markTable.TB _ w.heap.size loh hih (.slice Ah0 gl0.length ch0) (.slice Ah1 gl1.length ch1) gl0 gl1 from (by (with_reducible repeat (first | apply laws_markTable.TB.drewN | apply laws_markTable.TB.drew | apply laws_markTable.TB.alloc)); exact Hh.out)) hb); have n3_ := Aside0.mk (blk_below (g := ga) (o := (.cells #[.slice A0_0 l0_0.length c0_0, .slice A0_1 l0_1.length c0_1] 25 (0, 0))) (by (with_reducible repeat (first | refine blk_drewN ?_ _ | refine blk_drew ?_ | refine blk_alloc ?_ _)); exact BKa.out) hb); have n4_ := Aside0.mk (blk_below (g := gb) (o := (.cells #[.slice As0 sl0.length cs0, .slice As1 sl1.length cs1] 28 (0, 0))) (by (with_reducible repeat (first | refine blk_drewN ?_ _ | refine blk_drew ?_ | refine blk_alloc ?_ _)); exact BKb.out) hb); have n5_ := Aside0.mk (blk_below (g := gd) (o := (.cells #[.slice Ax0 yl0.length cx0, .slice Ax1 yl1.length cx1] 28 (0, 0))) (by (with_reducible repeat (first | refine blk_drewN ?_ _ | refine blk_drew ?_ | refine blk_alloc ?_ _)); exact BKd.out) hb); have n6_ := Aside0.mk (blk_below (g := ge) (o := (.cells #[.slice Ag0 gl0.length cg0, .slice Ag1 gl1.length cg1] 28 (0, 0))) (by (with_reducible repeat (first | refine blk_drewN ?_ _ | refine blk_drew ?_ | refine blk_alloc ?_ _)); exact BKe.out) hb); have n7_ := Aside0.mk (below_step (by repeat (first | (with_reducible first | exact HB.out | apply below_alloc | apply pw_below_drewN | apply below_drew1 | refine below_set ?_ GEa.out | refine below_set ?_ GEb.out | refine below_set ?_ GEd.out | refine below_set ?_ GEe.out) | exact HB.out)) hb); have n8_ := Aside0.mk hbox; have n9_ := Aside0.mk (by rw [hg]; exact (below_size (by repeat (first | (with_reducible first | exact HB.out | apply below_alloc | apply pw_below_drewN | apply below_drew1 | refine below_set ?_ GEa.out | refine below_set ?_ GEb.out | refine below_set ?_ GEd.out | refine below_set ?_ GEe.out) | exact HB.out))) : w.heap.size ≤ gf); have n10_ := Aside0.mk (by rw [hg]; exact Nat.ne_of_lt (blk_lt (g := ga) (o := (.cells #[.slice A0_0 l0_0.length c0_0, .slice A0_1 l0_1.length c0_1] 25 (0, 0))) (by (with_reducible repeat (first | refine blk_drewN ?_ _ | refine blk_drew ?_ | refine blk_alloc ?_ _)); exact BKa.out)) : ga ≠ gf); have n11_ := Aside0.mk (by rw [hg]; exact Nat.ne_of_gt (blk_lt (g := ga) (o := (.cells #[.slice A0_0 l0_0.length c0_0, .slice A0_1 l0_1.length c0_1] 25 (0, 0))) (by (with_reducible repeat (first | refine blk_drewN ?_ _ | refine blk_drew ?_ | refine blk_alloc ?_ _)); exact BKa.out)) : gf ≠ ga); have n12_ := Aside0.mk (by rw [hg]; exact Nat.ne_of_lt (blk_lt (g := gb) (o := (.cells #[.slice As0 sl0.length cs0, .slice As1 sl1.length cs1] 28 (0, 0))) (by (with_reducible repeat (first | refine blk_drewN ?_ _ | refine blk_drew ?_ | refine blk_alloc ?_ _)); exact BKb.out)) : gb ≠ gf); have n13_ := Aside0.mk (by rw [hg]; exact Nat.ne_of_gt (blk_lt (g := gb) (o := (.cells #[.slice As0 sl0.length cs0, .slice As1 sl1.length cs1] 28 (0, 0))) (by (with_reducible repeat (first | refine blk_drewN ?_ _ | refine blk_drew ?_ | refine blk_alloc ?_ _)); exact BKb.out)) : gf ≠ gb); have n14_ := Aside0.mk (by rw [hg]; exact Nat.ne_of_lt (blk_lt (g := gd) (o := (.cells #[.slice Ax0 yl0.length cx0, .slice Ax1 yl1.length cx1] 28 (0, 0))) (by (with_reducible repeat (first | refine blk_drewN ?_ _ | refine blk_drew ?_ | refine blk_alloc ?_ _)); exact BKd.out)) : gd ≠ gf); have n15_ := Aside0.mk (by rw [hg]; exact Nat.ne_of_gt (blk_lt (g := gd) (o := (.cells #[.slice Ax0 yl0.length cx0, .slice Ax1 yl1.length cx1] 28 (0, 0))) (by (with_reducible repeat (first | refine blk_drewN ?_ _ | refine blk_drew ?_ | refine blk_alloc ?_ _)); exact BKd.out)) : gf ≠ gd); have n16_ := Aside0.mk (by rw [hg]; exact Nat.ne_of_lt (blk_lt (g := ge) (o := (.cells #[.slice Ag0 gl0.length cg0, .slice Ag1 gl1.length cg1] 28 (0, 0))) (by (with_reducible repeat (first | refine blk_drewN ?_ _ | refine blk_drew ?_ | refine blk_alloc ?_ _)); exact BKe.out)) : ge ≠ gf); have n17_ := Aside0.mk (by rw [hg]; exact Nat.ne_of_gt (blk_lt (g := ge) (o := (.cells #[.slice Ag0 gl0.length cg0, .slice Ag1 gl1.length cg1] 28 (0, 0))) (by (with_reducible repeat (first | refine blk_drewN ?_ _ | refine blk_drew ?_ | refine blk_alloc ?_ _)); exact BKe.out)) : gf ≠ ge); have n18_ := Aside0.mk (by rw [hg]; exact .inr (show laws_markTable.TB _ _ _ _ _ _ _ _ from (show laws_markTable.TB _ w.heap.size los his (.slice As0 sl0.length cs0) (.slice As1 sl1.length cs1) sl0 sl1 from (by (with_reducible repeat (first | apply laws_markTable.TB.drewN | apply laws_markTable.TB.drew | apply laws_markTable.TB.alloc)); exact Hs.out))).2.2.2 : gf < los ∨ his ≤ gf); have n19_ := Aside0.mk (by rw [hg]; exact .inr (show laws_markTable.TB _ _ _ _ _ _ _ _ from (show laws_markTable.TB _ w.heap.size lom him (.slice Ag0 gl0.length cg0) (.slice Ag1 gl1.length cg1) ml0 ml1 from (by (with_reducible repeat (first | apply laws_markTable.TB.drewN | apply laws_markTable.TB.drew | apply laws_markTable.TB.alloc)); exact Hm.out))).2.2.2 : gf < lom ∨ him ≤ gf); have n20_ := Aside0.mk (by rw [hg]; exact .inr (show laws_markTable.TB _ _ _ _ _ _ _ _ from (show laws_markTable.TB _ w.heap.size loh hih (.slice Ah0 gl0.length ch0) (.slice Ah1 gl1.length ch1) gl0 gl1 from (by (with_reducible repeat (first | apply laws_markTable.TB.drewN | apply laws_markTable.TB.drew | apply laws_markTable.TB.alloc)); exact Hh.out))).2.2.2 : gf < loh ∨ hih ≤ gf); clear Hs; clear Hm; clear Hh; clear BKa; clear BKb; clear BKd; clear BKe; clear HB; have Hs := n0_; have Hm := n1_; have Hh := n2_; have BKa := n3_; have BKb := n4_; have BKd := n5_; have BKe := n6_; have HB := n7_; have BKf := n8_; have GEf := n9_; have NBa_f := n10_; have NBf_a := n11_; have NBb_f := n12_; have NBf_b := n13_; have NBd_f := n14_; have NBf_d := n15_; have NBe_f := n16_; have NBf_e := n17_; have SPs_f := n18_; have SPm_f := n19_; have SPh_f := n20_; clear n0_ n1_ n2_ n3_ n4_ n5_ n6_ n7_ n8_ n9_ n10_ n11_ n12_ n13_ n14_ n15_ n16_ n17_ n18_ n19_ n20_; clear hb hbox hg; have hcz39_a0 : w39.cell? ⟨ga, 0, none⟩ = some (.slice A0_0 l0_0.length c0_0) := (blk_cell BKa.out 0).trans rfl; have hfz39_a0 := blk_frozen BKa.out 0; have hcz39_a1 : w39.cell? ⟨ga, 1, none⟩ = some (.slice A0_1 l0_1.length c0_1) := (blk_cell BKa.out 1).trans rfl; have hfz39_a1 := blk_frozen BKa.out 1; have hcz39_b0 : w39.cell? ⟨gb, 0, none⟩ = some (.slice As0 sl0.length cs0) := (blk_cell BKb.out 0).trans rfl; have hfz39_b0 := blk_frozen BKb.out 0; have hcz39_b1 : w39.cell? ⟨gb, 1, none⟩ = some (.slice As1 sl1.length cs1) := (blk_cell BKb.out 1).trans rfl; have hfz39_b1 := blk_frozen BKb.out 1; have hcz39_d0 : w39.cell? ⟨gd, 0, none⟩ = some (.slice Ax0 yl0.length cx0) := (blk_cell BKd.out 0).trans rfl; have hfz39_d0 := blk_frozen BKd.out 0; have hcz39_d1 : w39.cell? ⟨gd, 1, none⟩ = some (.slice Ax1 yl1.length cx1) := (blk_cell BKd.out 1).trans rfl; have hfz39_d1 := blk_frozen BKd.out 1; have hcz39_e0 : w39.cell? ⟨ge, 0, none⟩ = some (.slice Ag0 gl0.length cg0) := (blk_cell BKe.out 0).trans rfl; have hfz39_e0 := blk_frozen BKe.out 0; have hcz39_e1 : w39.cell? ⟨ge, 1, none⟩ = some (.slice Ag1 gl1.length cg1) := (blk_cell BKe.out 1).trans rfl; have hfz39_e1 := blk_frozen BKe.out 1; have hcz39_f0 : w39.cell? ⟨gf, 0, none⟩ = some (.slice none 0 0) := (blk_cell BKf.out 0).trans rfl; have hfz39_f0 := blk_frozen BKf.out 0; have hcz39_f1 : w39.cell? ⟨gf, 1, none⟩ = some (.slice none 0 0) := (blk_cell BKf.out 1).trans rfl; have hfz39_f1 := blk_frozen BKf.out 1; have hnb39_a_b := NBa_b.out; have hnb39_a_d := NBa_d.out; have hnb39_a_e := NBa_e.out; have hnb39_a_f := NBa_f.out; have hnb39_b_a := NBb_a.out; have hnb39_b_d := NBb_d.out; have hnb39_b_e := NBb_e.out; have hnb39_b_f := NBb_f.out; have hnb39_d_a := NBd_a.out; have hnb39_d_b := NBd_b.out; have hnb39_d_e := NBd_e.out; have hnb39_d_f := NBd_f.out; have hnb39_e_a := NBe_a.out; have hnb39_e_b := NBe_b.out; have hnb39_e_d := NBe_d.out; have hnb39_e_f := NBe_f.out; have hnb39_f_a := NBf_a.out; have hnb39_f_b := NBf_b.out; have hnb39_f_d := NBf_d.out; have hnb39_f_e := NBf_e.out) |
      ((with_reducible refine gate_callee (f := 16) rfl ?_); refine goesL_ (some 86) rfl rfl Try.func16 (by kernel_rfl) rfl #[.agg #[.slice Ah0 gl0.length ch0, .slice Ah1 gl1.length ch1], .agg #[.slice As0 sl0.length cs0, .slice As1 sl1.length cs1]] rfl (by (try simp only [List.map_toArray, List.map_cons, List.map_nil]); first | done | rfl | (simp only [List.length_drop, List.length_take]; rfl)) ?_; (refine (laws_eqTable.calls k _ _ gl0 _ _ gl1 _ _ sl0 _ _ sl1 true _ ?side1 ?side2 ?side3 ?side4 ?side5 ?side6 ?side7 ?side8 HA4.out).mono ?_); (case side1 => exact (laws_markTable.TB.c0 (show laws_markTable.TB _ w.heap.size loh hih (.slice Ah0 gl0.length ch0) (.slice Ah1 gl1.length ch1) gl0 gl1 from (by (with_reducible repeat (first | apply laws_markTable.TB.drewN | apply laws_markTable.TB.drew | apply laws_markTable.TB.alloc)); refine laws_markTable.TB.far (g := gf) ?_ (by have h1_ := SPh_f.out; omega) _; (with_reducible repeat (first | apply laws_markTable.TB.drewN | apply laws_markTable.TB.drew | apply laws_markTable.TB.alloc)); refine laws_markTable.TB.far (g := gf) ?_ (by have h1_ := SPh_f.out; omega) _; (with_reducible repeat (first | apply laws_markTable.TB.drewN | apply laws_markTable.TB.drew | apply laws_markTable.TB.alloc)); exact Hh.out)))); (case side2 => exact HCh0.out); (case side3 => exact (laws_markTable.TB.c1 (show laws_markTable.TB _ w.heap.size loh hih (.slice Ah0 gl0.length ch0) (.slice Ah1 gl1.length ch1) gl0 gl1 from (by (with_reducible repeat (first | apply laws_markTable.TB.drewN | apply laws_markTable.TB.drew | apply laws_markTable.TB.alloc)); refine laws_markTable.TB.far (g := gf) ?_ (by have h1_ := SPh_f.out; omega) _; (with_reducible repeat (first | apply laws_markTable.TB.drewN | apply laws_markTable.TB.drew | apply laws_markTable.TB.alloc)); refine laws_markTable.TB.far (g := gf) ?_ (by have h1_ := SPh_f.out; omega) _; (with_reducible repeat (first | apply laws_markTable.TB.drewN | apply laws_markTable.TB.drew | apply laws_markTable.TB.alloc)); exact Hh.out)))); (case side4 => exact HCh1.out); (case side5 => exact (laws_markTable.TB.c0 (show laws_markTable.TB _ w.heap.size los his (.slice As0 sl0.length cs0) (.slice As1 sl1.length cs1) sl0 sl1 from (by (with_reducible repeat (first | apply laws_markTable.TB.drewN | apply laws_markTable.TB.drew | apply laws_markTable.TB.alloc)); refine laws_markTable.TB.far (g := gf) ?_ (by have h1_ := SPs_f.out; omega) _; (with_reducible repeat (first | apply laws_markTable.TB.drewN | apply laws_markTable.TB.drew | apply laws_markTable.TB.alloc)); refine laws_markTable.TB.far (g := gf) ?_ (by have h1_ := SPs_f.out; omega) _; (with_reducible repeat (first | apply laws_markTable.TB.drewN | apply laws_markTable.TB.drew | apply laws_markTable.TB.alloc)); exact Hs.out)))); (case side6 => exact HCs0.out); (case side7 => exact (laws_markTable.TB.c1 (show laws_markTable.TB _ w.heap.size los his (.slice As0 sl0.length cs0) (.slice As1 sl1.length cs1) sl0 sl1 from (by (with_reducible repeat (first | apply laws_markTable.TB.drewN | apply laws_markTable.TB.drew | apply laws_markTable.TB.alloc)); refine laws_markTable.TB.far (g := gf) ?_ (by have h1_ := SPs_f.out; omega) _; (with_reducible repeat (first | apply laws_markTable.TB.drewN | apply laws_markTable.TB.drew | apply laws_markTable.TB.alloc)); refine laws_markTable.TB.far (g := gf) ?_ (by have h1_ := SPs_f.out; omega) _; (with_reducible repeat (first | apply laws_markTable.TB.drewN | apply laws_markTable.TB.drew | apply laws_markTable.TB.alloc)); exact Hs.out)))); (case side8 => exact HCs1.out); rintro e w41 ⟨rfl, hb⟩; refine ⟨_, rfl, ?_⟩; (try clear hcz39_a0); (try clear hfz39_a0); (try clear hcz39_a1); (try clear hfz39_a1); (try clear hcz39_b0); (try clear hfz39_b0); (try clear hcz39_b1); (try clear hfz39_b1); (try clear hcz39_d0); (try clear hfz39_d0); (try clear hcz39_d1); (try clear hfz39_d1); (try clear hcz39_e0); (try clear hfz39_e0); (try clear hcz39_e1); (try clear hfz39_e1); (try clear hcz39_f0); (try clear hfz39_f0); (try clear hcz39_f1); (try clear hfz39_f1); (try clear hnb39_a_b); (try clear hnb39_a_d); (try clear hnb39_a_e); (try clear hnb39_a_f); (try clear hnb39_b_a); (try clear hnb39_b_d); (try clear hnb39_b_e); (try clear hnb39_b_f); (try clear hnb39_d_a); (try clear hnb39_d_b); (try clear hnb39_d_e); (try clear hnb39_d_f); (try clear hnb39_e_a); (try clear hnb39_e_b); (try clear hnb39_e_d); (try clear hnb39_e_f); (try clear hnb39_f_a); (try clear hnb39_f_b); (try clear hnb39_f_d); (try clear hnb39_f_e); have n0_ := Aside0.mk (laws_markTable.TB.below (show laws_markTable.TB _ w.heap.size los his (.slice As0 sl0.length cs0) (.slice As1 sl1.length cs1) sl0 sl1 from (by (with_reducible repeat (first | apply laws_markTable.TB.drewN | apply laws_markTable.TB.drew | apply laws_markTable.TB.alloc)); refine laws_markTable.TB.far (g := gf) ?_ (by have h1_ := SPs_f.out; omega) _; (with_reducible repeat (first | apply laws_markTable.TB.drewN | apply laws_markTable.TB.drew | apply laws_markTable.TB.alloc)); refine laws_markTable.TB.far (g := gf) ?_ (by have h1_ := SPs_f.out; omega) _; (with_reducible repeat (first | apply laws_markTable.TB.drewN | apply laws_markTable.TB.drew | apply laws_markTable.TB.alloc)); exact Hs.out)) hb); have n1_ := Aside0.mk (laws_markTable.TB.below (show laws_markTable.TB _ w.heap.size lom him (.slice Ag0 gl0.length cg0) (.slice Ag1 gl1.length cg1) ml0 ml1 from (by (with_reducible repeat (first | apply laws_markTable.TB.drewN | apply laws_markTable.TB.drew | apply laws_markTable.TB.alloc)); refine laws_markTable.TB.far (g := gf) ?_ (by have h1_ := SPm_f.out; omega) _; (with_reducible repeat (first | apply laws_markTable.TB.drewN | apply laws_markTable.TB.drew | apply laws_markTable.TB.alloc)); refine laws_markTable.TB.far (g := gf) ?_ (by have h1_ := SPm_f.out; omega) _; (with_reducible repeat (first | apply laws_markTable.TB.drewN | apply laws_markTable.TB.drew | apply laws_markTable.TB.alloc)); exact Hm.out)) hb); have n2_ := Aside0.mk (laws_markTable.TB.below (show laws_markTable.TB _ w.heap.size loh hih (.slice Ah0 gl0.length ch0) (.slice Ah1 gl1.length ch1) gl0 gl1 from (by (with_reducible repeat (first | apply laws_markTable.TB.drewN | apply laws_markTable.TB.drew | apply laws_markTable.TB.alloc)); refine laws_markTable.TB.far (g := gf) ?_ (by have h1_ := SPh_f.out; omega) _; (with_reducible repeat (first | apply laws_markTable.TB.drewN | apply laws_markTable.TB.drew | apply laws_markTable.TB.alloc)); refine laws_markTable.TB.far (g := gf) ?_ (by have h1_ := SPh_f.out; omega) _; (with_reducible repeat (first | apply laws_markTable.TB.drewN | apply laws_markTable.TB.drew | apply laws_markTable.TB.alloc)); exact Hh.out)) hb); have n3_ := Aside0.mk (blk_below (g := ga) (o := (.cells #[.slice A0_0 l0_0.length c0_0, .slice A0_1 l0_1.length c0_1] 25 (0, 0))) (by (with_reducible repeat (first | refine blk_drewN ?_ _ | refine blk_drew ?_ | refine blk_alloc ?_ _)); refine blk_far ?_ NBa_f.out _; (with_reducible repeat (first | refine blk_drewN ?_ _ | refine blk_drew ?_ | refine blk_alloc ?_ _)); refine blk_far ?_ NBa_f.out _; (with_reducible repeat (first | refine blk_drewN ?_ _ | refine blk_drew ?_ | refine blk_alloc ?_ _)); exact BKa.out) hb); have n4_ := Aside0.mk (blk_below (g := gb) (o := (.cells #[.slice As0 sl0.length cs0, .slice As1 sl1.length cs1] 28 (0, 0))) (by (with_reducible repeat (first | refine blk_drewN ?_ _ | refine blk_drew ?_ | refine blk_alloc ?_ _)); refine blk_far ?_ NBb_f.out _; (with_reducible repeat (first | refine blk_drewN ?_ _ | refine blk_drew ?_ | refine blk_alloc ?_ _)); refine blk_far ?_ NBb_f.out _; (with_reducible repeat (first | refine blk_drewN ?_ _ | refine blk_drew ?_ | refine blk_alloc ?_ _)); exact BKb.out) hb); have n5_ := Aside0.mk (blk_below (g := gd) (o := (.cells #[.slice Ax0 yl0.length cx0, .slice Ax1 yl1.length cx1] 28 (0, 0))) (by (with_reducible repeat (first | refine blk_drewN ?_ _ | refine blk_drew ?_ | refine blk_alloc ?_ _)); refine blk_far ?_ NBd_f.out _; (with_reducible repeat (first | refine blk_drewN ?_ _ | refine blk_drew ?_ | refine blk_alloc ?_ _)); refine blk_far ?_ NBd_f.out _; (with_reducible repeat (first | refine blk_drewN ?_ _ | refine blk_drew ?_ | refine blk_alloc ?_ _)); exact BKd.out) hb); have n6_ := Aside0.mk (blk_below (g := ge) (o := (.cells #[.slice Ag0 gl0.length cg0, .slice Ag1 gl1.length cg1] 28 (0, 0))) (by (with_reducible repeat (first | refine blk_drewN ?_ _ | refine blk_drew ?_ | refine blk_alloc ?_ _)); refine blk_far ?_ NBe_f.out _; (with_reducible repeat (first | refine blk_drewN ?_ _ | refine blk_drew ?_ | refine blk_alloc ?_ _)); refine blk_far ?_ NBe_f.out _; (with_reducible repeat (first | refine blk_drewN ?_ _ | refine blk_drew ?_ | refine blk_alloc ?_ _)); exact BKe.out) hb); have n7_ := Aside0.mk (blk_below (g := gf) (o := (.cells #[.slice Ah0 gl0.length ch0, .slice Ah1 gl1.length ch1] 28 (0, 0))) (by (with_reducible repeat (first | refine blk_drewN ?_ _ | refine blk_drew ?_ | refine blk_alloc ?_ _)); refine blk_put (cs := #[.slice Ah0 gl0.length ch0, .slice none 0 0]) ?_ 1 _ rfl; (with_reducible repeat (first | refine blk_drewN ?_ _ | refine blk_drew ?_ | refine blk_alloc ?_ _)); refine blk_put (cs := #[.slice none 0 0, .slice none 0 0]) ?_ 0 _ rfl; (with_reducible repeat (first | refine blk_drewN ?_ _ | refine blk_drew ?_ | refine blk_alloc ?_ _)); exact BKf.out) hb); have n8_ := Aside0.mk (below_step (by repeat (first | (with_reducible first | exact HB.out | apply below_alloc | apply pw_below_drewN | apply below_drew1 | refine below_set ?_ GEa.out | refine below_set ?_ GEb.out | refine below_set ?_ GEd.out | refine below_set ?_ GEe.out | refine below_set ?_ GEf.out) | exact HB.out)) hb); clear Hs; clear Hm; clear Hh; clear BKa; clear BKb; clear BKd; clear BKe; clear BKf; clear HB; have Hs := n0_; have Hm := n1_; have Hh := n2_; have BKa := n3_; have BKb := n4_; have BKd := n5_; have BKe := n6_; have BKf := n7_; have HB := n8_; clear n0_ n1_ n2_ n3_ n4_ n5_ n6_ n7_ n8_; clear hb; have hcz41_a0 : w41.cell? ⟨ga, 0, none⟩ = some (.slice A0_0 l0_0.length c0_0) := (blk_cell BKa.out 0).trans rfl; have hfz41_a0 := blk_frozen BKa.out 0; have hcz41_a1 : w41.cell? ⟨ga, 1, none⟩ = some (.slice A0_1 l0_1.length c0_1) := (blk_cell BKa.out 1).trans rfl; have hfz41_a1 := blk_frozen BKa.out 1; have hcz41_b0 : w41.cell? ⟨gb, 0, none⟩ = some (.slice As0 sl0.length cs0) := (blk_cell BKb.out 0).trans rfl; have hfz41_b0 := blk_frozen BKb.out 0; have hcz41_b1 : w41.cell? ⟨gb, 1, none⟩ = some (.slice As1 sl1.length cs1) := (blk_cell BKb.out 1).trans rfl; have hfz41_b1 := blk_frozen BKb.out 1; have hcz41_d0 : w41.cell? ⟨gd, 0, none⟩ = some (.slice Ax0 yl0.length cx0) := (blk_cell BKd.out 0).trans rfl; have hfz41_d0 := blk_frozen BKd.out 0; have hcz41_d1 : w41.cell? ⟨gd, 1, none⟩ = some (.slice Ax1 yl1.length cx1) := (blk_cell BKd.out 1).trans rfl; have hfz41_d1 := blk_frozen BKd.out 1; have hcz41_e0 : w41.cell? ⟨ge, 0, none⟩ = some (.slice Ag0 gl0.length cg0) := (blk_cell BKe.out 0).trans rfl; have hfz41_e0 := blk_frozen BKe.out 0; have hcz41_e1 : w41.cell? ⟨ge, 1, none⟩ = some (.slice Ag1 gl1.length cg1) := (blk_cell BKe.out 1).trans rfl; have hfz41_e1 := blk_frozen BKe.out 1; have hcz41_f0 : w41.cell? ⟨gf, 0, none⟩ = some (.slice Ah0 gl0.length ch0) := (blk_cell BKf.out 0).trans rfl; have hfz41_f0 := blk_frozen BKf.out 0; have hcz41_f1 : w41.cell? ⟨gf, 1, none⟩ = some (.slice Ah1 gl1.length ch1) := (blk_cell BKf.out 1).trans rfl; have hfz41_f1 := blk_frozen BKf.out 1; have hnb41_a_b := NBa_b.out; have hnb41_a_d := NBa_d.out; have hnb41_a_e := NBa_e.out; have hnb41_a_f := NBa_f.out; have hnb41_b_a := NBb_a.out; have hnb41_b_d := NBb_d.out; have hnb41_b_e := NBb_e.out; have hnb41_b_f := NBb_f.out; have hnb41_d_a := NBd_a.out; have hnb41_d_b := NBd_b.out; have hnb41_d_e := NBd_e.out; have hnb41_d_f := NBd_f.out; have hnb41_e_a := NBe_a.out; have hnb41_e_b := NBe_b.out; have hnb41_e_d := NBe_d.out; have hnb41_e_f := NBe_f.out; have hnb41_f_a := NBf_a.out; have hnb41_f_b := NBf_b.out; have hnb41_f_d := NBf_d.out; have hnb41_f_e := NBf_e.out) |
      ((with_reducible refine gate_callee (f := 32) rfl ?_); refine goesL_ (some 95) rfl rfl Try.func32 (by kernel_rfl) rfl #[.agg #[.slice Ag0 ml0.length cg0, .slice Ag1 ml1.length cg1], .int .i64 1] rfl (by (try simp only [List.map_toArray, List.map_cons, List.map_nil]); first | done | (rw [← EM0.out, ← EM1.out]; rfl) | rfl | (simp only [List.length_drop, List.length_take]; rfl)) ?_; (refine (laws_heldTable.calls k _ _ ml0 _ _ ml1 1 t1 _ ?side1 ?side2 ?side3 ?side4 HA8.out).mono ?_); (case side1 => exact (laws_markTable.TB.c0 (show laws_markTable.TB _ w.heap.size lom him (.slice Ag0 gl0.length cg0) (.slice Ag1 gl1.length cg1) ml0 ml1 from (by (with_reducible repeat (first | apply laws_markTable.TB.drewN | apply laws_markTable.TB.drew | apply laws_markTable.TB.alloc)); exact Hm.out)))); (case side2 => exact (EM0.out ▸ HCg0.out)); (case side3 => exact (laws_markTable.TB.c1 (show laws_markTable.TB _ w.heap.size lom him (.slice Ag0 gl0.length cg0) (.slice Ag1 gl1.length cg1) ml0 ml1 from (by (with_reducible repeat (first | apply laws_markTable.TB.drewN | apply laws_markTable.TB.drew | apply laws_markTable.TB.alloc)); exact Hm.out)))); (case side4 => exact (EM1.out ▸ HCg1.out)); rintro e w43 ⟨rfl, hb⟩; refine ⟨_, rfl, ?_⟩; (try clear hcz41_a0); (try clear hfz41_a0); (try clear hcz41_a1); (try clear hfz41_a1); (try clear hcz41_b0); (try clear hfz41_b0); (try clear hcz41_b1); (try clear hfz41_b1); (try clear hcz41_d0); (try clear hfz41_d0); (try clear hcz41_d1); (try clear hfz41_d1); (try clear hcz41_e0); (try clear hfz41_e0); (try clear hcz41_e1); (try clear hfz41_e1); (try clear hcz41_f0); (try clear hfz41_f0); (try clear hcz41_f1); (try clear hfz41_f1); (try clear hnb41_a_b); (try clear hnb41_a_d); (try clear hnb41_a_e); (try clear hnb41_a_f); (try clear hnb41_b_a); (try clear hnb41_b_d); (try clear hnb41_b_e); (try clear hnb41_b_f); (try clear hnb41_d_a); (try clear hnb41_d_b); (try clear hnb41_d_e); (try clear hnb41_d_f); (try clear hnb41_e_a); (try clear hnb41_e_b); (try clear hnb41_e_d); (try clear hnb41_e_f); (try clear hnb41_f_a); (try clear hnb41_f_b); (try clear hnb41_f_d); (try clear hnb41_f_e); have n0_ := Aside0.mk (laws_markTable.TB.below (show laws_markTable.TB _ w.heap.size los his (.slice As0 sl0.length cs0) (.slice As1 sl1.length cs1) sl0 sl1 from (by (with_reducible repeat (first | apply laws_markTable.TB.drewN | apply laws_markTable.TB.drew | apply laws_markTable.TB.alloc)); exact Hs.out)) hb); have n1_ := Aside0.mk (laws_markTable.TB.below (show laws_markTable.TB _ w.heap.size lom him (.slice Ag0 gl0.length cg0) (.slice Ag1 gl1.length cg1) ml0 ml1 from (by (with_reducible repeat (first | apply laws_markTable.TB.drewN | apply laws_markTable.TB.drew | apply laws_markTable.TB.alloc)); exact Hm.out)) hb); have n2_ := Aside0.mk (laws_markTable.TB.below (show laws_markTable.TB _ w.heap.size loh hih (.slice Ah0 gl0.length ch0) (.slice Ah1 gl1.length ch1) gl0 gl1 from (by (with_reducible repeat (first | apply laws_markTable.TB.drewN | apply laws_markTable.TB.drew | apply laws_markTable.TB.alloc)); exact Hh.out)) hb); have n3_ := Aside0.mk (blk_below (g := ga) (o := (.cells #[.slice A0_0 l0_0.length c0_0, .slice A0_1 l0_1.length c0_1] 25 (0, 0))) (by (with_reducible repeat (first | refine blk_drewN ?_ _ | refine blk_drew ?_ | refine blk_alloc ?_ _)); exact BKa.out) hb); have n4_ := Aside0.mk (blk_below (g := gb) (o := (.cells #[.slice As0 sl0.length cs0, .slice As1 sl1.length cs1] 28 (0, 0))) (by (with_reducible repeat (first | refine blk_drewN ?_ _ | refine blk_drew ?_ | refine blk_alloc ?_ _)); exact BKb.out) hb); have n5_ := Aside0.mk (blk_below (g := gd) (o := (.cells #[.slice Ax0 yl0.length cx0, .slice Ax1 yl1.length cx1] 28 (0, 0))) (by (with_reducible repeat (first | refine blk_drewN ?_ _ | refine blk_drew ?_ | refine blk_alloc ?_ _)); exact BKd.out) hb); have n6_ := Aside0.mk (blk_below (g := ge) (o := (.cells #[.slice Ag0 gl0.length cg0, .slice Ag1 gl1.length cg1] 28 (0, 0))) (by (with_reducible repeat (first | refine blk_drewN ?_ _ | refine blk_drew ?_ | refine blk_alloc ?_ _)); exact BKe.out) hb); have n7_ := Aside0.mk (blk_below (g := gf) (o := (.cells #[.slice Ah0 gl0.length ch0, .slice Ah1 gl1.length ch1] 28 (0, 0))) (by (with_reducible repeat (first | refine blk_drewN ?_ _ | refine blk_drew ?_ | refine blk_alloc ?_ _)); exact BKf.out) hb); have n8_ := Aside0.mk (below_step (by repeat (first | (with_reducible first | exact HB.out | apply below_alloc | apply pw_below_drewN | apply below_drew1 | refine below_set ?_ GEa.out | refine below_set ?_ GEb.out | refine below_set ?_ GEd.out | refine below_set ?_ GEe.out | refine below_set ?_ GEf.out) | exact HB.out)) hb); clear Hs; clear Hm; clear Hh; clear BKa; clear BKb; clear BKd; clear BKe; clear BKf; clear HB; have Hs := n0_; have Hm := n1_; have Hh := n2_; have BKa := n3_; have BKb := n4_; have BKd := n5_; have BKe := n6_; have BKf := n7_; have HB := n8_; clear n0_ n1_ n2_ n3_ n4_ n5_ n6_ n7_ n8_; clear hb; have hcz43_a0 : w43.cell? ⟨ga, 0, none⟩ = some (.slice A0_0 l0_0.length c0_0) := (blk_cell BKa.out 0).trans rfl; have hfz43_a0 := blk_frozen BKa.out 0; have hcz43_a1 : w43.cell? ⟨ga, 1, none⟩ = some (.slice A0_1 l0_1.length c0_1) := (blk_cell BKa.out 1).trans rfl; have hfz43_a1 := blk_frozen BKa.out 1; have hcz43_b0 : w43.cell? ⟨gb, 0, none⟩ = some (.slice As0 sl0.length cs0) := (blk_cell BKb.out 0).trans rfl; have hfz43_b0 := blk_frozen BKb.out 0; have hcz43_b1 : w43.cell? ⟨gb, 1, none⟩ = some (.slice As1 sl1.length cs1) := (blk_cell BKb.out 1).trans rfl; have hfz43_b1 := blk_frozen BKb.out 1; have hcz43_d0 : w43.cell? ⟨gd, 0, none⟩ = some (.slice Ax0 yl0.length cx0) := (blk_cell BKd.out 0).trans rfl; have hfz43_d0 := blk_frozen BKd.out 0; have hcz43_d1 : w43.cell? ⟨gd, 1, none⟩ = some (.slice Ax1 yl1.length cx1) := (blk_cell BKd.out 1).trans rfl; have hfz43_d1 := blk_frozen BKd.out 1; have hcz43_e0 : w43.cell? ⟨ge, 0, none⟩ = some (.slice Ag0 gl0.length cg0) := (blk_cell BKe.out 0).trans rfl; have hfz43_e0 := blk_frozen BKe.out 0; have hcz43_e1 : w43.cell? ⟨ge, 1, none⟩ = some (.slice Ag1 gl1.length cg1) := (blk_cell BKe.out 1).trans rfl; have hfz43_e1 := blk_frozen BKe.out 1; have hcz43_f0 : w43.cell? ⟨gf, 0, none⟩ = some (.slice Ah0 gl0.length ch0) := (blk_cell BKf.out 0).trans rfl; have hfz43_f0 := blk_frozen BKf.out 0; have hcz43_f1 : w43.cell? ⟨gf, 1, none⟩ = some (.slice Ah1 gl1.length ch1) := (blk_cell BKf.out 1).trans rfl; have hfz43_f1 := blk_frozen BKf.out 1; have hnb43_a_b := NBa_b.out; have hnb43_a_d := NBa_d.out; have hnb43_a_e := NBa_e.out; have hnb43_a_f := NBa_f.out; have hnb43_b_a := NBb_a.out; have hnb43_b_d := NBb_d.out; have hnb43_b_e := NBb_e.out; have hnb43_b_f := NBb_f.out; have hnb43_d_a := NBd_a.out; have hnb43_d_b := NBd_b.out; have hnb43_d_e := NBd_e.out; have hnb43_d_f := NBd_f.out; have hnb43_e_a := NBe_a.out; have hnb43_e_b := NBe_b.out; have hnb43_e_d := NBe_d.out; have hnb43_e_f := NBe_f.out; have hnb43_f_a := NBf_a.out; have hnb43_f_b := NBf_b.out; have hnb43_f_d := NBf_d.out; have hnb43_f_e := NBf_e.out))
    go_ret
    exact ⟨rfl, (by repeat (first | (with_reducible first | exact HB.out | apply below_alloc | apply pw_below_drewN | apply below_drew1 | refine below_set ?_ GEa.out | refine below_set ?_ GEb.out | refine below_set ?_ GEd.out | refine below_set ?_ GEe.out | refine below_set ?_ GEf.out) | exact HB.out))⟩

end Go.Proofs.Ytpcchfklmcalaaa.P

namespace Go.Proofs.Ytpcchfklmcalaaa.P
open Go.RowKit Go.Proofs.YtpcchfklmcalaaaW.PrintWords
/-- The pure statement of the law. -/
def laws_FnExactWithRise.Pure : Prop := ∀ (x0 : S25) (x1 : Int), ((x0.f0.length ≤ 9223372036854775807 ∧ ∀ x0_ ∈ x0.f0, (Lit.int .i16 x0_).wf = true) ∧ (x0.f1.length ≤ 9223372036854775807 ∧ ∀ x0_ ∈ x0.f1, (x0_.length ≤ 9223372036854775807 ∧ ∀ x1_ ∈ x0_, (Lit.int .i16 x1_).wf = true))) → (Lit.int .i64 x1).wf = true → ∃ k, laws_FnExactWithRise.f k x0.f0 x0.f1 x1 = some true
end Go.Proofs.Ytpcchfklmcalaaa.P

namespace Go.Proofs.Ytpcchfklmcalaaa.Pure
open Go.RowKit Go.Proofs.Ytpcchfklmcalaaa.P Go.Proofs.YtpcchfklmcalaaaW.PrintWords Go.Proofs.YtpcchfklmcalaaaW.PrintLast
set_option linter.unusedVariables false
set_option linter.unusedSimpArgs false

theorem EvG {α : Type} {g : Nat → Option α} {r : α} (h : Ev g r) : ∃ K, ∀ k, K ≤ k → g k = some r := h
theorem EvI {α : Type} {g : Nat → Option α} {r : α} (K : Nat) (h : ∀ k, K ≤ k → g k = some r) : Ev g r := ⟨K, h⟩
theorem w64 {x : Int} (h0 : -9223372036854775808 ≤ x) (h1 : x ≤ 9223372036854775807) : wrap64 x = x := by
  unfold wrap64; omega
theorem wN (i : Nat) (h : i < 4611686018427387904) : wrap64 ((i : Int) + 1) = ((i + 1 : Nat) : Int) := by
  unfold wrap64; omega
theorem rdN (l : List Int) (i : Nat) : rd l (i : Int) = l.getD i 0 := rfl
theorem rd_at (l : List Int) (i : Int) (n : Nat) (h : i = n) : rd l i = l.getD n 0 := by subst h; rfl
theorem getD_eq (l : List Int) (i : Nat) (h : i < l.length) : l.getD i 0 = l[i] := by
  rw [List.getD_eq_getElem?_getD, List.getElem?_eq_getElem h]; rfl
theorem getD_mem (l : List Int) (i : Nat) (h : i < l.length) : l.getD i 0 ∈ l := by rw [getD_eq l i h]; exact List.getElem_mem h
theorem list_ext (a b : List Int) (hl : a.length = b.length) (h : ∀ j, j < b.length → a.getD j 0 = b.getD j 0) : a = b := by
  apply List.ext_getElem hl
  intro i h1 h2
  have := h i h2
  rwa [getD_eq a i h1, getD_eq b i h2] at this
theorem getD_set (l : List Int) (i j : Nat) (v : Int) (h : i < l.length) : (l.set i v).getD j 0 = if i = j then v else l.getD j 0 := by
  simp only [List.getD_eq_getElem?_getD, List.getElem?_set]
  by_cases e : i = j
  · subst e; simp [h]
  · simp [e]
theorem getD_rep (n j : Nat) (v : Int) (h : j < n) : (List.replicate n v).getD j 0 = v := by
  simp [List.getD_eq_getElem?_getD, List.getElem?_replicate, h]

end Go.Proofs.Ytpcchfklmcalaaa.Pure

namespace Go.Proofs.Ytpcchfklmcalaaa.Pure
open Go.RowKit Go.Proofs.Ytpcchfklmcalaaa.P Go.Proofs.YtpcchfklmcalaaaW.PrintWords Go.Proofs.YtpcchfklmcalaaaW.PrintLast
set_option linter.unusedVariables false
set_option linter.unusedSimpArgs false

theorem getD_eqG {α : Type} (z : α) (l : List α) (i : Nat) (h : i < l.length) : l.getD i z = l[i] := by
  rw [List.getD_eq_getElem?_getD, List.getElem?_eq_getElem h]; rfl
theorem getD_memG {α : Type} (z : α) (l : List α) (i : Nat) (h : i < l.length) : l.getD i z ∈ l := by rw [getD_eqG z l i h]; exact List.getElem_mem h
theorem list_extG {α : Type} (z : α) (a b : List α) (hl : a.length = b.length) (h : ∀ j, j < b.length → a.getD j z = b.getD j z) : a = b := by
  apply List.ext_getElem hl
  intro i h1 h2
  have := h i h2
  rwa [getD_eqG z a i h1, getD_eqG z b i h2] at this
theorem getD_setG {α : Type} (z : α) (l : List α) (i j : Nat) (v : α) (h : i < l.length) : (l.set i v).getD j z = if i = j then v else l.getD j z := by
  simp only [List.getD_eq_getElem?_getD, List.getElem?_set]
  by_cases e : i = j
  · subst e; simp [h]
  · simp [e]
theorem mem_getDG {α : Type} (z : α) (l : List α) (s : α) (h : s ∈ l) : ∃ i, i < l.length ∧ l.getD i z = s := by
  obtain ⟨i, hi, e⟩ := List.mem_iff_getElem.1 h
  exact ⟨i, hi, by rw [getD_eqG z l i hi, e]⟩
theorem rdL (l : List (List Int)) (i : Nat) : rd_L1 l (i : Int) = l.getD i [] := rfl

theorem szI16 (l : List Int) (a : Int) (h0 : 0 ≤ a) (h1 : a ≤ 1048576) (hl : l.length ≤ 9223372036854775807) : laws_szInt16S.f l a = some (if (l.length : Int) ≤ a then a - l.length else -1) := by
  unfold laws_szInt16S.f
  rw [w64 (by omega) (by omega)]
  split <;> split <;> first | rfl | omega
theorem szI16SS_l0 (l : List (List Int)) (hn : l.length ≤ 1048576) (hm : ∀ x ∈ l, x.length ≤ 9223372036854775807) : ∀ d i (a : Int), l.length - i = d → i ≤ l.length → 0 ≤ a → a ≤ 1048576 → (∀ j, j < i → (l.getD j []).length ≤ 1048576) →
    ∃ t, Ev (fun k => laws_szInt16SS.l0 k l a (i : Int)) t ∧ (t < 0 ∨ ∀ j, j < l.length → (l.getD j []).length ≤ 1048576) := by
  intro d
  induction d with
  | zero =>
    intro i a hd hi h0 h1 hj
    exact ⟨a, Ev.step (f := fun _ => some a) (fun k => by rw [laws_szInt16SS.l0, if_neg (by omega)]) (Ev.now _), .inr (fun j h => hj j (by omega))⟩
  | succ d ih =>
    intro i a hd hi h0 h1 hj
    have hb := hm _ (getD_memG [] l i (by omega))
    have e : ∀ k, laws_szInt16SS.l0 (k + 1) l a (i : Int) = (if (if ((l.getD i []).length : Int) ≤ a then a - (l.getD i []).length else -1) < 0 then some (-1) else laws_szInt16SS.l0 k l (if ((l.getD i []).length : Int) ≤ a then a - (l.getD i []).length else -1) ((i + 1 : Nat) : Int)) := fun k => by
      rw [laws_szInt16SS.l0, if_pos (by omega), if_pos (by omega), rdL, szI16 _ a h0 h1 hb, Option.bind_some, wN i (by omega)]
    by_cases c : ((l.getD i []).length : Int) ≤ a
    · obtain ⟨t, t1, t2⟩ := ih (i + 1) (a - (l.getD i []).length) (by omega) (by omega) (by omega) (by omega) (fun j h => by
        by_cases e : j = i
        · subst e; omega
        · exact hj j (by omega))
      exact ⟨t, Ev.step (fun k => by rw [e, if_pos c, if_neg (by omega)]) t1, t2⟩
    · exact ⟨-1, Ev.step (f := fun _ => some (-1)) (fun k => by rw [e, if_neg c, if_pos (by omega)]) (Ev.now _), .inl (by omega)⟩
/-- What a table counts: less than 0 where it is too great. -/
theorem szT (s : List Int) (p : List (List Int)) (hs : s.length ≤ 9223372036854775807) (hp : p.length ≤ 9223372036854775807) (hm : ∀ x ∈ p, x.length ≤ 9223372036854775807) :
    ∃ t, Ev (fun k => laws_szTable.f k s p 1048576) t ∧ (t < 0 ∨ (s.length ≤ 1048576 ∧ p.length ≤ 1048576 ∧ ∀ x ∈ p, x.length ≤ 1048576)) := by
  have e : ∀ k, laws_szTable.f k s p 1048576 = (if (if (s.length : Int) ≤ 1048576 then 1048576 - (s.length : Int) else -1) < 0 then some (-1) else (laws_szInt16SS.f k p (if (s.length : Int) ≤ 1048576 then 1048576 - (s.length : Int) else -1)).bind fun t105 => if t105 < 0 then some (-1) else some t105) := fun k => by
    rw [laws_szTable.f, szI16 s 1048576 (by omega) (by omega) hs, Option.bind_some]
  by_cases c : (s.length : Int) ≤ 1048576
  · by_cases c2 : 1048576 - (s.length : Int) - (p.length : Int) < 0
    · refine ⟨-1, EvI 0 fun k _ => ?_, .inl (by omega)⟩
      rw [e, if_pos c, if_neg (by omega), laws_szInt16SS.f, w64 (by omega) (by omega), if_pos c2, Option.bind_some, if_pos (by omega)]
    · obtain ⟨t, t1, t2⟩ := szI16SS_l0 p (by omega) hm _ 0 (1048576 - (s.length : Int) - (p.length : Int)) rfl (Nat.zero_le _) (by omega) (by omega) (fun j h => absurd h (Nat.not_lt_zero _))
      obtain ⟨K, t1⟩ := EvG t1
      refine ⟨if t < 0 then -1 else t, EvI K fun k hk => ?_, ?_⟩
      · rw [e, if_pos c, if_neg (by omega), laws_szInt16SS.f, w64 (by omega) (by omega), if_neg c2, show (0 : Int) = ((0 : Nat) : Int) from rfl, t1 k hk, Option.bind_some]
        split <;> rfl
      · by_cases ht : t < 0
        · rw [if_pos ht]; exact .inl (by omega)
        · rw [if_neg ht]
          refine .inr ⟨by omega, by omega, fun x hx => ?_⟩
          obtain ⟨i, hi, rfl⟩ := mem_getDG [] p x hx
          rcases t2 with t2 | t2
          · omega
          · exact t2 i hi
  · refine ⟨-1, EvI 0 fun k _ => ?_, .inl (by omega)⟩
    rw [e, if_neg c, if_pos (by omega)]

theorem toI16_l0 (l : List Int) (hb : l.length ≤ 1048576) : ∀ d i x, l.length - i = d → i ≤ l.length → x.length = l.length → (∀ j, j < i → x.getD j 0 = l.getD j 0) → Ev (fun k => laws_toInt16S.l0 k l x (i : Int)) l := by
  intro d
  induction d with
  | zero =>
    intro i x hd hi hx hj
    refine Ev.step (f := fun _ => some x) (fun k => ?_) ?_
    · rw [laws_toInt16S.l0, if_neg (by omega)]
    · have : x = l := list_extG 0 x l hx (fun j h => hj j (by omega))
      rw [this]; exact Ev.now l
  | succ d ih =>
    intro i x hd hi hx hj
    refine Ev.step (fun k => ?_) (ih (i + 1) (x.set i (l.getD i 0)) (by omega) (by omega) (by simpa using hx) ?_)
    · rw [laws_toInt16S.l0, if_pos (by omega), if_pos (by omega), if_pos (by omega), wN i (by omega), rdN, Int.toNat_natCast]
    · intro j h
      rw [getD_setG 0 x i j _ (by omega)]
      by_cases e : i = j
      · rw [if_pos e, e]
      · rw [if_neg e]; exact hj j (by omega)
theorem toI16 (l : List Int) (hb : l.length ≤ 1048576) : Ev (fun k => laws_toInt16S.f k l) l := by
  refine Ev.congr (f := fun k => laws_toInt16S.l0 k l (List.replicate l.length 0) ((0 : Nat) : Int)) (fun k => ?_) (toI16_l0 l hb _ 0 _ rfl (Nat.zero_le _) (by simp) (fun j h => absurd h (Nat.not_lt_zero _)))
  simp only [laws_toInt16S.f, Int.toNat_natCast]
  rw [if_pos (by omega), if_pos (by omega)]; rfl
theorem toI16SS_l0 (l : List (List Int)) (hb : l.length ≤ 1048576) (hm : ∀ x ∈ l, x.length ≤ 1048576) : ∀ d i x, l.length - i = d → i ≤ l.length → x.length = l.length → (∀ j, j < i → x.getD j [] = l.getD j []) → Ev (fun k => laws_toInt16SS.l0 k l x (i : Int)) l := by
  intro d
  induction d with
  | zero =>
    intro i x hd hi hx hj
    refine Ev.step (f := fun _ => some x) (fun k => ?_) ?_
    · rw [laws_toInt16SS.l0, if_neg (by omega)]
    · have : x = l := list_extG [] x l hx (fun j h => hj j (by omega))
      rw [this]; exact Ev.now l
  | succ d ih =>
    intro i x hd hi hx hj
    obtain ⟨K1, h1⟩ := EvG (toI16 (l.getD i []) (hm _ (getD_memG [] l i (by omega))))
    obtain ⟨K2, h2⟩ := EvG (ih (i + 1) (x.set i (l.getD i [])) (by omega) (by omega) (by simpa using hx) (fun j h => by
      rw [getD_setG [] x i j _ (by omega)]
      by_cases e : i = j
      · rw [if_pos e, e]
      · rw [if_neg e]; exact hj j (by omega)))
    refine EvI (K1 + K2 + 1) fun k hk => ?_
    obtain ⟨m, rfl⟩ : ∃ m, k = m + 1 := ⟨k - 1, by omega⟩
    rw [laws_toInt16SS.l0, if_pos (by omega), if_pos (by omega), rdL, h1 m (by omega), Option.bind_some, if_pos (by omega), wN i (by omega), Int.toNat_natCast, h2 m (by omega)]
theorem toI16SS (l : List (List Int)) (hb : l.length ≤ 1048576) (hm : ∀ x ∈ l, x.length ≤ 1048576) : Ev (fun k => laws_toInt16SS.f k l) l := by
  refine Ev.congr (f := fun k => laws_toInt16SS.l0 k l (List.replicate l.length []) ((0 : Nat) : Int)) (fun k => ?_) (toI16SS_l0 l hb hm _ 0 _ rfl (Nat.zero_le _) (by simp) (fun j h => absurd h (Nat.not_lt_zero _)))
  simp only [laws_toInt16SS.f, Int.toNat_natCast]
  rw [if_pos (by omega), if_pos (by omega)]; rfl
/-- A table is copied. -/
theorem toT (s : List Int) (p : List (List Int)) (hs : s.length ≤ 1048576) (hp : p.length ≤ 1048576) (hm : ∀ x ∈ p, x.length ≤ 1048576) : Ev (fun k => laws_toTable.f k s p) (s, p) := by
  obtain ⟨K1, h1⟩ := EvG (toI16 s hs)
  obtain ⟨K2, h2⟩ := EvG (toI16SS p hp hm)
  refine EvI (K1 + K2) fun k hk => ?_
  rw [laws_toTable.f, h1 k (by omega), Option.bind_some, h2 k (by omega), Option.bind_some]
theorem eqI16_l0 (l : List Int) (hb : l.length ≤ 1048576) : ∀ d i, l.length - i = d → i ≤ l.length → Ev (fun k => laws_eqInt16S.l0 k l l (i : Int)) true := by
  intro d
  induction d with
  | zero =>
    intro i hd hi
    refine Ev.step (f := fun _ => some true) (fun k => ?_) (Ev.now _)
    rw [laws_eqInt16S.l0, if_neg (by omega)]
  | succ d ih =>
    intro i hd hi
    refine Ev.step (fun k => ?_) (ih (i + 1) (by omega) (by omega))
    rw [laws_eqInt16S.l0, if_pos (by omega), if_pos (by omega), if_pos (by omega), if_pos rfl, wN i (by omega)]
theorem eqI16 (l : List Int) (hb : l.length ≤ 1048576) : Ev (fun k => laws_eqInt16S.f k l l) true := by
  refine Ev.congr (f := fun k => laws_eqInt16S.l0 k l l ((0 : Nat) : Int)) (fun k => ?_) (eqI16_l0 l hb _ 0 rfl (Nat.zero_le _))
  rw [laws_eqInt16S.f, if_pos rfl]; rfl
theorem eqI16SS_l0 (l : List (List Int)) (hb : l.length ≤ 1048576) (hm : ∀ x ∈ l, x.length ≤ 1048576) : ∀ d i, l.length - i = d → i ≤ l.length → Ev (fun k => laws_eqInt16SS.l0 k l l (i : Int)) true := by
  intro d
  induction d with
  | zero =>
    intro i hd hi
    refine Ev.step (f := fun _ => some true) (fun k => ?_) (Ev.now _)
    rw [laws_eqInt16SS.l0, if_neg (by omega)]
  | succ d ih =>
    intro i hd hi
    obtain ⟨K1, h1⟩ := EvG (eqI16 (l.getD i []) (hm _ (getD_memG [] l i (by omega))))
    obtain ⟨K2, h2⟩ := EvG (ih (i + 1) (by omega) (by omega))
    refine EvI (K1 + K2 + 1) fun k hk => ?_
    obtain ⟨m, rfl⟩ : ∃ m, k = m + 1 := ⟨k - 1, by omega⟩
    rw [laws_eqInt16SS.l0, if_pos (by omega), if_pos (by omega), if_pos (by omega), rdL, h1 m (by omega), Option.bind_some, if_pos rfl, wN i (by omega), h2 m (by omega)]
theorem eqI16SS (l : List (List Int)) (hb : l.length ≤ 1048576) (hm : ∀ x ∈ l, x.length ≤ 1048576) : Ev (fun k => laws_eqInt16SS.f k l l) true := by
  refine Ev.congr (f := fun k => laws_eqInt16SS.l0 k l l ((0 : Nat) : Int)) (fun k => ?_) (eqI16SS_l0 l hb hm _ 0 rfl (Nat.zero_le _))
  rw [laws_eqInt16SS.f, if_pos rfl]; rfl
/-- A table is equal to itself. -/
theorem eqT (s : List Int) (p : List (List Int)) (hs : s.length ≤ 1048576) (hp : p.length ≤ 1048576) (hm : ∀ x ∈ p, x.length ≤ 1048576) : Ev (fun k => laws_eqTable.f k s p s p) true := by
  obtain ⟨K1, h1⟩ := EvG (eqI16 s hs)
  obtain ⟨K2, h2⟩ := EvG (eqI16SS p hp hm)
  refine EvI (K1 + K2) fun k hk => ?_
  rw [laws_eqTable.f, h1 k (by omega), Option.bind_some, if_pos rfl, h2 k (by omega), Option.bind_some, if_pos rfl]
/-- What came in, not too much of it. -/
theorem preOf (s : List Int) (p : List (List Int)) (hs : s.length ≤ 1048576) (hp : p.length ≤ 1048576) (hm : ∀ x ∈ p, x.length ≤ 1048576) (ws : ∀ x ∈ s, (Lit.int .i16 x).wf = true) (wp : ∀ x ∈ p, ∀ y ∈ x, (Lit.int .i16 y).wf = true) : spec_l03Ok.preT s p :=
  ⟨by omega, by omega, fun x hx => bounds_i16 (ws x hx), fun l hl => ⟨by have := hm l hl; omega, fun x hx => bounds_i16 (wp l hl x hx)⟩⟩
theorem idxF_lt {α : Type} (p : α → Bool) (l : List α) : idxF p l < (l.length : Int) := by
  induction l with
  | nil => simp [idxF]
  | cons x l ih =>
    rw [idxF, List.length_cons]
    split
    · omega
    · split <;> omega

end Go.Proofs.Ytpcchfklmcalaaa.Pure

namespace Go.Proofs.Ytpcchfklmcalaaa.P
open Go.RowKit Go.Proofs.YtpcchfklmcalaaaW.PrintWords Go.Proofs.YtpcchfklmcalaaaW.PrintLast Go.Proofs.YtpcchfklmcalaaaW.PrintMore
attribute [local go_sem] max2_int min2_int max_two min_two max_three min_three max_four min_four   -- for this text's walks alone
set_option linter.unusedVariables false
set_option linter.unusedSimpArgs false

/-! ### impl_unless: function 79 -/
def impl_unless.f (a0 : Bool) (a1 : Int) : Option (Int) := if a0 = true then (some 0) else (some a1)
set_option maxHeartbeats 8000000 in
set_option maxRecDepth 100000 in
theorem impl_unless.calls (a0 : Bool) (a1 : Int) (r : Int) (w : World) (h : impl_unless.f a0 a1 = some r) :
    Calls Try.prog 79 #[.bool a0, .int .i64 a1] w fun e w' => e = .returned (.int .i64 r) ∧ Drawn0 w w' := by
  have H : (if a0 = true then (some 0) else (some a1)) = some r := h
  clear h
  by_cases c3 : a0 = true
  · subst c3
    have H1 : (some 0) = some r := by rw [if_pos rfl] at H; exact H
    clear H
    have H := H1
    clear H1
    obtain rfl := Option.some.inj H
    go_enter Try.func79, Try.ntmps79
    go_wp2
    go_ret
    exact ⟨by first | rfl | (simp; done) | (simp [*]; done), by repeat (first | exact Drawn0.refl _ | apply Drawn0.step)⟩
  · replace c3 := Bool.eq_false_iff.mpr c3
    subst c3
    have H1 : (some a1) = some r := by rw [if_neg (show ¬ (false = true) by decide)] at H; exact H
    clear H
    have H := H1
    clear H1
    obtain rfl := Option.some.inj H
    go_enter Try.func79, Try.ntmps79
    go_wp2
    go_ret
    exact ⟨by first | rfl | (simp; done) | (simp [*]; done), by repeat (first | exact Drawn0.refl _ | apply Drawn0.step)⟩

end Go.Proofs.Ytpcchfklmcalaaa.P

namespace Go.Proofs.Ytpcchfklmcalaaa.P
open Go.RowKit Go.Proofs.YtpcchfklmcalaaaW.PrintWords Go.Proofs.YtpcchfklmcalaaaW.PrintLast Go.Proofs.YtpcchfklmcalaaaW.PrintMore
attribute [local go_sem] max2_int min2_int max_two min_two max_three min_three max_four min_four   -- for this text's walks alone
set_option linter.unusedVariables false
set_option linter.unusedSimpArgs false

/-! ### impl_tableCode: function 58 -/
def impl_tableCode.f (l0_0 : List Int) (l0_1 : List (List Int)) (a1 : Int) (l2 : List Int) : Option (Int) := (impl_ValidTable.f l0_0 l0_1).bind fun t241 => (if t241 = true then ((impl_size_int16.f l0_1).bind fun t242 => ((impl_within.f a1 0 (wrap64 (t242 - 1))).bind fun t243 => (if t243 = true then ((impl_areWithin.f l2 1 2000).bind fun t244 => ((impl_unless.f t244 2).bind fun t245 => (some t245))) else ((impl_unless.f false 2).bind fun t246 => (some t246))))) else (some 1))
set_option maxHeartbeats 8000000 in
set_option maxRecDepth 100000 in
theorem impl_tableCode.calls (A0_0 : Option Addr) (c0_0 : Nat) (l0_0 : List Int) (A0_1 : Option Addr) (c0_1 : Nat) (l0_1 : List (List Int)) (a1 : Int) (A2 : Option Addr) (c2 : Nat) (l2 : List Int) (r : Int) (w : World) (hr0_0 : Kd.C (Kd.int .i16) w A0_0 l0_0.length l0_0) (hc0_0 : l0_0.length ≤ c0_0) (hr0_1 : Kd.C (Kd.slice 57 (Kd.int .i16)) w A0_1 l0_1.length l0_1) (hc0_1 : l0_1.length ≤ c0_1) (hr2 : Kd.C (Kd.int .i64) w A2 l2.length l2) (hc2 : l2.length ≤ c2) (h : impl_tableCode.f l0_0 l0_1 a1 l2 = some r) :
    Calls Try.prog 58 #[.agg #[.slice A0_0 l0_0.length c0_0, .slice A0_1 l0_1.length c0_1], .int .i64 a1, .slice A2 l2.length c2] w fun e w' => e = .returned (.int .i64 r) ∧ Below w.heap.size w w' := by
  have hu28 := Try.underlying28
  have HR0_0 := Aside0.mk hr0_0
  have HC0_0 := Aside0.mk hc0_0
  clear hr0_0 hc0_0
  have HR0_1 := Aside0.mk hr0_1
  have HC0_1 := Aside0.mk hc0_1
  clear hr0_1 hc0_1
  have HR2 := Aside0.mk hr2
  have HC2 := Aside0.mk hc2
  clear hr2 hc2
  have HB := Aside0.mk (Below.refl w.heap.size w)
  have H : ((impl_ValidTable.f l0_0 l0_1).bind fun t241 => (if t241 = true then ((impl_size_int16.f l0_1).bind fun t242 => ((impl_within.f a1 0 (wrap64 (t242 - 1))).bind fun t243 => (if t243 = true then ((impl_areWithin.f l2 1 2000).bind fun t244 => ((impl_unless.f t244 2).bind fun t245 => (some t245))) else ((impl_unless.f false 2).bind fun t246 => (some t246))))) else (some 1))) = some r := h
  clear h
  replace H := Option.bind_eq_some_iff.mp H
  obtain ⟨t241, A40, H⟩ := H
  replace H : (if t241 = true then ((impl_size_int16.f l0_1).bind fun t242 => ((impl_within.f a1 0 (wrap64 (t242 - 1))).bind fun t243 => (if t243 = true then ((impl_areWithin.f l2 1 2000).bind fun t244 => ((impl_unless.f t244 2).bind fun t245 => (some t245))) else ((impl_unless.f false 2).bind fun t246 => (some t246))))) else (some 1)) = some r := H
  have A4 := Aside0.mk A40
  clear A40
  by_cases c5 : t241 = true
  · subst c5
    have H1 : ((impl_size_int16.f l0_1).bind fun t242 => ((impl_within.f a1 0 (wrap64 (t242 - 1))).bind fun t243 => (if t243 = true then ((impl_areWithin.f l2 1 2000).bind fun t244 => ((impl_unless.f t244 2).bind fun t245 => (some t245))) else ((impl_unless.f false 2).bind fun t246 => (some t246))))) = some r := by rw [if_pos rfl] at H; exact H
    clear H
    have H := H1
    clear H1
    replace H := Option.bind_eq_some_iff.mp H
    obtain ⟨t242, A60, H⟩ := H
    replace H : ((impl_within.f a1 0 (wrap64 (t242 - 1))).bind fun t243 => (if t243 = true then ((impl_areWithin.f l2 1 2000).bind fun t244 => ((impl_unless.f t244 2).bind fun t245 => (some t245))) else ((impl_unless.f false 2).bind fun t246 => (some t246)))) = some r := H
    have A6 := Aside0.mk A60
    clear A60
    replace H := Option.bind_eq_some_iff.mp H
    obtain ⟨t243, A70, H⟩ := H
    replace H : (if t243 = true then ((impl_areWithin.f l2 1 2000).bind fun t244 => ((impl_unless.f t244 2).bind fun t245 => (some t245))) else ((impl_unless.f false 2).bind fun t246 => (some t246))) = some r := H
    have A7 := Aside0.mk A70
    clear A70
    by_cases c8 : t243 = true
    · subst c8
      have H1 : ((impl_areWithin.f l2 1 2000).bind fun t244 => ((impl_unless.f t244 2).bind fun t245 => (some t245))) = some r := by rw [if_pos rfl] at H; exact H
      clear H
      have H := H1
      clear H1
      replace H := Option.bind_eq_some_iff.mp H
      obtain ⟨t244, A90, H⟩ := H
      replace H : ((impl_unless.f t244 2).bind fun t245 => (some t245)) = some r := H
      have A9 := Aside0.mk A90
      clear A90
      replace H := Option.bind_eq_some_iff.mp H
      obtain ⟨t245, A100, H⟩ := H
      replace H : (some t245) = some r := H
      have A10 := Aside0.mk A100
      clear A100
      obtain rfl := Option.some.inj H
      go_enter Try.func58, Try.ntmps58
      go_wp2_with (first | ((with_reducible refine gate_dst (N := 3) rfl ?_); refine box_event ?hg (N := 3) ?hd (cs := #[.slice A0_0 l0_0.length c0_0, .slice A0_1 l0_1.length c0_1]) (t := 28) ?hr ?_; (case hd => rfl); (case hg => rfl); (case hr => first | (go_simp; done) | (go_simp; rfl)); intro gb240 hg w11 hbox hb; have n0_ := Aside0.mk (below_step (by repeat (first | (with_reducible first | exact HB.out | apply below_alloc | apply pw_below_drewN | apply below_drew1) | exact HB.out)) hb); have n1_ := Aside0.mk (hbox); have n2_ := Aside0.mk ((by rw [hg]; exact (below_size (by repeat (first | (with_reducible first | exact HB.out | apply below_alloc | apply pw_below_drewN | apply below_drew1) | exact HB.out))) : w.heap.size ≤ gb240)); have n3_ := Aside0.mk ((by rw [hg]; exact (below_size (by repeat (first | (with_reducible first | exact HB.out | apply below_alloc | apply pw_below_drewN | apply below_drew1) | exact HB.out))) : w.heap.size ≤ gb240)); clear HB; have HB := n0_; have BK240 := n1_; have GW240 := n2_; have GE240 := n3_; clear n0_ n1_ n2_ n3_; clear hb hbox hg; have hcz12_0 : w11.cell? ⟨gb240, 0, none⟩ = some (.slice A0_0 l0_0.length c0_0) := (blk_cell BK240.out 0).trans rfl; have hcz12_1 : w11.cell? ⟨gb240, 1, none⟩ = some (.slice A0_1 l0_1.length c0_1) := (blk_cell BK240.out 1).trans rfl; have hfz12_0 := blk_frozen BK240.out 0; have hfz12_1 := blk_frozen BK240.out 1) | ((with_reducible refine gate_callee (f := 15) rfl ?_); refine goesL_ (some 8) rfl rfl Try.func15 (by kernel_rfl) rfl #[.agg #[.slice A0_0 l0_0.length c0_0, .slice A0_1 l0_1.length c0_1]] rfl (by (try simp only [List.map_toArray, List.map_cons, List.map_nil]); first | done | rfl | (simp only [List.length_drop, List.length_take]; rfl)) ?_; (with_reducible refine (impl_ValidTable.calls _ _ l0_0 _ _ l0_1 true _ ?side1 ?side2 ?side3 ?side4 A4.out).mono ?_); (case side1 => repeat (first | exact (Kd.C_below HR0_0.out HB.out) | (with_reducible refine Kd.C_alloc ?_ _) | (with_reducible refine Kd.C_drewN ?_ _) | (with_reducible refine Kd.C_drew ?_))); (case side2 => exact HC0_0.out); (case side3 => repeat (first | exact (Kd.C_below HR0_1.out HB.out) | (with_reducible refine Kd.C_alloc ?_ _) | (with_reducible refine Kd.C_drewN ?_ _) | (with_reducible refine Kd.C_drew ?_))); (case side4 => exact HC0_1.out); rintro e w13 ⟨rfl, hb⟩; refine ⟨_, rfl, ?_⟩; have n0_ := Aside0.mk (blk_below (g := gb240) (o := .cells #[.slice A0_0 l0_0.length c0_0, .slice A0_1 l0_1.length c0_1] 28 (0, 0)) (by (with_reducible repeat (first | refine blk_drewN ?_ _ | refine blk_drew ?_ | refine blk_alloc ?_ _)); exact BK240.out) hb); have n1_ := Aside0.mk (below_step (by repeat (first | (with_reducible first | exact HB.out | apply below_alloc | apply pw_below_drewN | apply below_drew1 | refine below_set ?_ GE240.out) | exact HB.out)) hb); clear BK240; clear HB; have BK240 := n0_; have HB := n1_; clear n0_ n1_; (try clear hb); (try clear hb2); (try clear hk); (try clear hi); have hcz14_0 : w13.cell? ⟨gb240, 0, none⟩ = some (.slice A0_0 l0_0.length c0_0) := (blk_cell BK240.out 0).trans rfl; have hcz14_1 : w13.cell? ⟨gb240, 1, none⟩ = some (.slice A0_1 l0_1.length c0_1) := (blk_cell BK240.out 1).trans rfl; have hfz14_0 := blk_frozen BK240.out 0; have hfz14_1 := blk_frozen BK240.out 1) | ((with_reducible refine gate_callee (f := 47) rfl ?_); refine goesL_ (some 13) rfl rfl Try.func47 (by kernel_rfl) rfl #[.slice A0_1 l0_1.length c0_1] rfl (by (try simp only [List.map_toArray, List.map_cons, List.map_nil]); first | done | rfl | (simp only [List.length_drop, List.length_take]; rfl)) ?_; (with_reducible refine (impl_size_int16.calls _ _ l0_1 t242 _ ?side1 ?side2 A6.out).mono ?_); (case side1 => repeat (first | exact (Kd.C_below HR0_1.out HB.out) | (with_reducible refine Kd.C_alloc ?_ _) | (with_reducible refine Kd.C_drewN ?_ _) | (with_reducible refine Kd.C_drew ?_))); (case side2 => exact HC0_1.out); rintro e w' ⟨rfl, ⟨nd, rfl⟩⟩; refine ⟨_, rfl, ?_⟩) | ((with_reducible refine gate_callee (f := 43) rfl ?_); refine goesL_ (some 15) rfl rfl Try.func43 (by kernel_rfl) rfl #[.int .i64 a1, .int .i64 0, .int .i64 (wrap64 (t242 - 1))] rfl (by (try simp only [List.map_toArray, List.map_cons, List.map_nil]); first | done | rfl | (simp only [List.length_drop, List.length_take]; rfl)) ?_; (with_reducible refine (impl_within.calls a1 0 (wrap64 (t242 - 1)) true _ A7.out).mono ?_); rintro e w' ⟨rfl, ⟨nd, rfl⟩⟩; refine ⟨_, rfl, ?_⟩) | (go_at_call 45; (with_reducible refine (impl_areWithin.calls _ _ l2 1 2000 t244 _ ?side1 ?side2 A9.out).mono ?_); (case side1 => repeat (first | exact (Kd.C_below HR2.out (by repeat (first | (with_reducible first | exact HB.out | apply below_alloc | apply pw_below_drewN | apply below_drew1 | refine below_set ?_ GE240.out) | exact HB.out))) | (with_reducible refine Kd.C_alloc ?_ _) | (with_reducible refine Kd.C_drewN ?_ _) | (with_reducible refine Kd.C_drew ?_))); (case side2 => exact HC2.out); rintro e w15 ⟨rfl, hb⟩; have n0_ := Aside0.mk (blk_below (g := gb240) (o := .cells #[.slice A0_0 l0_0.length c0_0, .slice A0_1 l0_1.length c0_1] 28 (0, 0)) (by (with_reducible repeat (first | refine blk_drewN ?_ _ | refine blk_drew ?_ | refine blk_alloc ?_ _)); exact BK240.out) hb); have n1_ := Aside0.mk (below_step (by repeat (first | (with_reducible first | exact HB.out | apply below_alloc | apply pw_below_drewN | apply below_drew1 | refine below_set ?_ GE240.out) | exact HB.out)) hb); clear BK240; clear HB; have BK240 := n0_; have HB := n1_; clear n0_ n1_; (try clear hb); (try clear hb2); (try clear hk); (try clear hi)) | ((with_reducible refine gate_callee (f := 79) rfl ?_); refine goesL_ (some 20) rfl rfl Try.func79 (by kernel_rfl) rfl #[.bool t244, .int .i64 2] rfl (by (try simp only [List.map_toArray, List.map_cons, List.map_nil]); first | done | rfl | (simp only [List.length_drop, List.length_take]; rfl)) ?_; (with_reducible refine (impl_unless.calls t244 2 t245 _ A10.out).mono ?_); rintro e w' ⟨rfl, ⟨nd, rfl⟩⟩; refine ⟨_, rfl, ?_⟩))
      go_ret
      exact ⟨by first | rfl | (simp [errW_none, errW_some] <;> rfl) | (simp [*, errW_none, errW_some] <;> rfl), by repeat (first | (with_reducible first | exact HB.out | apply below_alloc | apply pw_below_drewN | apply below_drew1 | refine below_set ?_ GE240.out) | exact HB.out)⟩
    · replace c8 := Bool.eq_false_iff.mpr c8
      subst c8
      have H1 : ((impl_unless.f false 2).bind fun t246 => (some t246)) = some r := by rw [if_neg (show ¬ (false = true) by decide)] at H; exact H
      clear H
      have H := H1
      clear H1
      replace H := Option.bind_eq_some_iff.mp H
      obtain ⟨t246, A160, H⟩ := H
      replace H : (some t246) = some r := H
      have A16 := Aside0.mk A160
      clear A160
      obtain rfl := Option.some.inj H
      go_enter Try.func58, Try.ntmps58
      go_wp2_with (first | ((with_reducible refine gate_dst (N := 3) rfl ?_); refine box_event ?hg (N := 3) ?hd (cs := #[.slice A0_0 l0_0.length c0_0, .slice A0_1 l0_1.length c0_1]) (t := 28) ?hr ?_; (case hd => rfl); (case hg => rfl); (case hr => first | (go_simp; done) | (go_simp; rfl)); intro gb240 hg w17 hbox hb; have n0_ := Aside0.mk (below_step (by repeat (first | (with_reducible first | exact HB.out | apply below_alloc | apply pw_below_drewN | apply below_drew1) | exact HB.out)) hb); have n1_ := Aside0.mk (hbox); have n2_ := Aside0.mk ((by rw [hg]; exact (below_size (by repeat (first | (with_reducible first | exact HB.out | apply below_alloc | apply pw_below_drewN | apply below_drew1) | exact HB.out))) : w.heap.size ≤ gb240)); have n3_ := Aside0.mk ((by rw [hg]; exact (below_size (by repeat (first | (with_reducible first | exact HB.out | apply below_alloc | apply pw_below_drewN | apply below_drew1) | exact HB.out))) : w.heap.size ≤ gb240)); clear HB; have HB := n0_; have BK240 := n1_; have GW240 := n2_; have GE240 := n3_; clear n0_ n1_ n2_ n3_; clear hb hbox hg; have hcz18_0 : w17.cell? ⟨gb240, 0, none⟩ = some (.slice A0_0 l0_0.length c0_0) := (blk_cell BK240.out 0).trans rfl; have hcz18_1 : w17.cell? ⟨gb240, 1, none⟩ = some (.slice A0_1 l0_1.length c0_1) := (blk_cell BK240.out 1).trans rfl; have hfz18_0 := blk_frozen BK240.out 0; have hfz18_1 := blk_frozen BK240.out 1) | ((with_reducible refine gate_callee (f := 15) rfl ?_); refine goesL_ (some 8) rfl rfl Try.func15 (by kernel_rfl) rfl #[.agg #[.slice A0_0 l0_0.length c0_0, .slice A0_1 l0_1.length c0_1]] rfl (by (try simp only [List.map_toArray, List.map_cons, List.map_nil]); first | done | rfl | (simp only [List.length_drop, List.length_take]; rfl)) ?_; (with_reducible refine (impl_ValidTable.calls _ _ l0_0 _ _ l0_1 true _ ?side1 ?side2 ?side3 ?side4 A4.out).mono ?_); (case side1 => repeat (first | exact (Kd.C_below HR0_0.out HB.out) | (with_reducible refine Kd.C_alloc ?_ _) | (with_reducible refine Kd.C_drewN ?_ _) | (with_reducible refine Kd.C_drew ?_))); (case side2 => exact HC0_0.out); (case side3 => repeat (first | exact (Kd.C_below HR0_1.out HB.out) | (with_reducible refine Kd.C_alloc ?_ _) | (with_reducible refine Kd.C_drewN ?_ _) | (with_reducible refine Kd.C_drew ?_))); (case side4 => exact HC0_1.out); rintro e w19 ⟨rfl, hb⟩; refine ⟨_, rfl, ?_⟩; have n0_ := Aside0.mk (blk_below (g := gb240) (o := .cells #[.slice A0_0 l0_0.length c0_0, .slice A0_1 l0_1.length c0_1] 28 (0, 0)) (by (with_reducible repeat (first | refine blk_drewN ?_ _ | refine blk_drew ?_ | refine blk_alloc ?_ _)); exact BK240.out) hb); have n1_ := Aside0.mk (below_step (by repeat (first | (with_reducible first | exact HB.out | apply below_alloc | apply pw_below_drewN | apply below_drew1 | refine below_set ?_ GE240.out) | exact HB.out)) hb); clear BK240; clear HB; have BK240 := n0_; have HB := n1_; clear n0_ n1_; (try clear hb); (try clear hb2); (try clear hk); (try clear hi); have hcz20_0 : w19.cell? ⟨gb240, 0, none⟩ = some (.slice A0_0 l0_0.length c0_0) := (blk_cell BK240.out 0).trans rfl; have hcz20_1 : w19.cell? ⟨gb240, 1, none⟩ = some (.slice A0_1 l0_1.length c0_1) := (blk_cell BK240.out 1).trans rfl; have hfz20_0 := blk_frozen BK240.out 0; have hfz20_1 := blk_frozen BK240.out 1) | ((with_reducible refine gate_callee (f := 47) rfl ?_); refine goesL_ (some 13) rfl rfl Try.func47 (by kernel_rfl) rfl #[.slice A0_1 l0_1.length c0_1] rfl (by (try simp only [List.map_toArray, List.map_cons, List.map_nil]); first | done | rfl | (simp only [List.length_drop, List.length_take]; rfl)) ?_; (with_reducible refine (impl_size_int16.calls _ _ l0_1 t242 _ ?side1 ?side2 A6.out).mono ?_); (case side1 => repeat (first | exact (Kd.C_below HR0_1.out HB.out) | (with_reducible refine Kd.C_alloc ?_ _) | (with_reducible refine Kd.C_drewN ?_ _) | (with_reducible refine Kd.C_drew ?_))); (case side2 => exact HC0_1.out); rintro e w' ⟨rfl, ⟨nd, rfl⟩⟩; refine ⟨_, rfl, ?_⟩) | ((with_reducible refine gate_callee (f := 43) rfl ?_); refine goesL_ (some 15) rfl rfl Try.func43 (by kernel_rfl) rfl #[.int .i64 a1, .int .i64 0, .int .i64 (wrap64 (t242 - 1))] rfl (by (try simp only [List.map_toArray, List.map_cons, List.map_nil]); first | done | rfl | (simp only [List.length_drop, List.length_take]; rfl)) ?_; (with_reducible refine (impl_within.calls a1 0 (wrap64 (t242 - 1)) false _ A7.out).mono ?_); rintro e w' ⟨rfl, ⟨nd, rfl⟩⟩; refine ⟨_, rfl, ?_⟩) | ((with_reducible refine gate_callee (f := 79) rfl ?_); refine goesL_ (some 20) rfl rfl Try.func79 (by kernel_rfl) rfl #[.bool false, .int .i64 2] rfl (by (try simp only [List.map_toArray, List.map_cons, List.map_nil]); first | done | rfl | (simp only [List.length_drop, List.length_take]; rfl)) ?_; (with_reducible refine (impl_unless.calls false 2 t246 _ A16.out).mono ?_); rintro e w' ⟨rfl, ⟨nd, rfl⟩⟩; refine ⟨_, rfl, ?_⟩))
      go_ret
      exact ⟨by first | rfl | (simp [errW_none, errW_some] <;> rfl) | (simp [*, errW_none, errW_some] <;> rfl), by repeat (first | (with_reducible first | exact HB.out | apply below_alloc | apply pw_below_drewN | apply below_drew1 | refine below_set ?_ GE240.out) | exact HB.out)⟩
  · replace c5 := Bool.eq_false_iff.mpr c5
    subst c5
    have H1 : (some 1) = some r := by rw [if_neg (show ¬ (false = true) by decide)] at H; exact H
    clear H
    have H := H1
    clear H1
    obtain rfl := Option.some.inj H
    go_enter Try.func58, Try.ntmps58
    go_wp2_with (first | ((with_reducible refine gate_dst (N := 3) rfl ?_); refine box_event ?hg (N := 3) ?hd (cs := #[.slice A0_0 l0_0.length c0_0, .slice A0_1 l0_1.length c0_1]) (t := 28) ?hr ?_; (case hd => rfl); (case hg => rfl); (case hr => first | (go_simp; done) | (go_simp; rfl)); intro gb240 hg w21 hbox hb; have n0_ := Aside0.mk (below_step (by repeat (first | (with_reducible first | exact HB.out | apply below_alloc | apply pw_below_drewN | apply below_drew1) | exact HB.out)) hb); have n1_ := Aside0.mk (hbox); have n2_ := Aside0.mk ((by rw [hg]; exact (below_size (by repeat (first | (with_reducible first | exact HB.out | apply below_alloc | apply pw_below_drewN | apply below_drew1) | exact HB.out))) : w.heap.size ≤ gb240)); have n3_ := Aside0.mk ((by rw [hg]; exact (below_size (by repeat (first | (with_reducible first | exact HB.out | apply below_alloc | apply pw_below_drewN | apply below_drew1) | exact HB.out))) : w.heap.size ≤ gb240)); clear HB; have HB := n0_; have BK240 := n1_; have GW240 := n2_; have GE240 := n3_; clear n0_ n1_ n2_ n3_; clear hb hbox hg; have hcz22_0 : w21.cell? ⟨gb240, 0, none⟩ = some (.slice A0_0 l0_0.length c0_0) := (blk_cell BK240.out 0).trans rfl; have hcz22_1 : w21.cell? ⟨gb240, 1, none⟩ = some (.slice A0_1 l0_1.length c0_1) := (blk_cell BK240.out 1).trans rfl; have hfz22_0 := blk_frozen BK240.out 0; have hfz22_1 := blk_frozen BK240.out 1) | ((with_reducible refine gate_callee (f := 15) rfl ?_); refine goesL_ (some 8) rfl rfl Try.func15 (by kernel_rfl) rfl #[.agg #[.slice A0_0 l0_0.length c0_0, .slice A0_1 l0_1.length c0_1]] rfl (by (try simp only [List.map_toArray, List.map_cons, List.map_nil]); first | done | rfl | (simp only [List.length_drop, List.length_take]; rfl)) ?_; (with_reducible refine (impl_ValidTable.calls _ _ l0_0 _ _ l0_1 false _ ?side1 ?side2 ?side3 ?side4 A4.out).mono ?_); (case side1 => repeat (first | exact (Kd.C_below HR0_0.out HB.out) | (with_reducible refine Kd.C_alloc ?_ _) | (with_reducible refine Kd.C_drewN ?_ _) | (with_reducible refine Kd.C_drew ?_))); (case side2 => exact HC0_0.out); (case side3 => repeat (first | exact (Kd.C_below HR0_1.out HB.out) | (with_reducible refine Kd.C_alloc ?_ _) | (with_reducible refine Kd.C_drewN ?_ _) | (with_reducible refine Kd.C_drew ?_))); (case side4 => exact HC0_1.out); rintro e w23 ⟨rfl, hb⟩; refine ⟨_, rfl, ?_⟩; have n0_ := Aside0.mk (blk_below (g := gb240) (o := .cells #[.slice A0_0 l0_0.length c0_0, .slice A0_1 l0_1.length c0_1] 28 (0, 0)) (by (with_reducible repeat (first | refine blk_drewN ?_ _ | refine blk_drew ?_ | refine blk_alloc ?_ _)); exact BK240.out) hb); have n1_ := Aside0.mk (below_step (by repeat (first | (with_reducible first | exact HB.out | apply below_alloc | apply pw_below_drewN | apply below_drew1 | refine below_set ?_ GE240.out) | exact HB.out)) hb); clear BK240; clear HB; have BK240 := n0_; have HB := n1_; clear n0_ n1_; (try clear hb); (try clear hb2); (try clear hk); (try clear hi)))
    go_ret
    exact ⟨by first | rfl | (simp [errW_none, errW_some] <;> rfl) | (simp [*, errW_none, errW_some] <;> rfl), by repeat (first | (with_reducible first | exact HB.out | apply below_alloc | apply pw_below_drewN | apply below_drew1 | refine below_set ?_ GE240.out) | exact HB.out)⟩

end Go.Proofs.Ytpcchfklmcalaaa.P

namespace Go.Proofs.Ytpcchfklmcalaaa.P
open Go.RowKit Go.Proofs.YtpcchfklmcalaaaW.PrintWords Go.Proofs.YtpcchfklmcalaaaW.PrintLast Go.Proofs.YtpcchfklmcalaaaW.PrintMore
attribute [local go_sem] max2_int min2_int max_two min_two max_three min_three max_four min_four   -- for this text's walks alone
set_option linter.unusedVariables false
set_option linter.unusedSimpArgs false

/-! ### spec_l03Weight: function 56 -/
def spec_l03Weight.f (a0 : Int) : Option (Bool) := (spec_l00In.f a0 1 2000).bind fun t235 => (some t235)
set_option maxHeartbeats 8000000 in
set_option maxRecDepth 100000 in
theorem spec_l03Weight.calls (a0 : Int) (r : Bool) (w : World) (h : spec_l03Weight.f a0 = some r) :
    Calls Try.prog 56 #[.int .i64 a0] w fun e w' => e = .returned (.bool r) ∧ Drawn0 w w' := by
  have H : ((spec_l00In.f a0 1 2000).bind fun t235 => (some t235)) = some r := h
  clear h
  replace H := Option.bind_eq_some_iff.mp H
  obtain ⟨t235, A20, H⟩ := H
  replace H : (some t235) = some r := H
  have A2 := Aside0.mk A20
  clear A20
  obtain rfl := Option.some.inj H
  go_enter Try.func56, Try.ntmps56
  go_wp2_with (first | ((with_reducible refine gate_callee (f := 66) rfl ?_); refine goesL_ (some 4) rfl rfl Try.func66 (by kernel_rfl) rfl #[.int .i64 a0, .int .i64 1, .int .i64 2000] rfl (by (try simp only [List.map_toArray, List.map_cons, List.map_nil]); first | done | rfl | (simp only [List.length_drop, List.length_take]; rfl)) ?_; (with_reducible refine (spec_l00In.calls a0 1 2000 t235 _ A2.out).mono ?_); rintro e w' ⟨rfl, ⟨nd, rfl⟩⟩; refine ⟨_, rfl, ?_⟩))
  go_ret
  exact ⟨by first | rfl | (simp; done) | (simp [*]; done), by repeat (first | exact Drawn0.refl _ | apply Drawn0.step)⟩

end Go.Proofs.Ytpcchfklmcalaaa.P

namespace Go.Proofs.Ytpcchfklmcalaaa.Pure
open Go.RowKit Go.Proofs.Ytpcchfklmcalaaa.P Go.Proofs.YtpcchfklmcalaaaW.PrintWords Go.Proofs.YtpcchfklmcalaaaW.PrintLast
set_option linter.unusedVariables false
set_option linter.unusedSimpArgs false

theorem inF (a lo hi : Int) : spec_l00In.f a lo hi = some (decide (lo ≤ a) && decide (a ≤ hi)) := by
  unfold spec_l00In.f; by_cases h : lo ≤ a <;> simp [h]
theorem withinF (a lo hi : Int) : impl_within.f a lo hi = some (decide (lo ≤ a) && decide (a ≤ hi)) := by
  unfold impl_within.f; by_cases h : lo ≤ a <;> simp [h]
theorem weightF (a : Int) : spec_l03Weight.f a = some (decide (1 ≤ a) && decide (a ≤ 2000)) := by
  rw [spec_l03Weight.f, inF, Option.bind_some]
/-- The code. -/
def codeT (s : List Int) (p : List (List Int)) (z : Int) (fine : Bool) : Int := if spec_l03Ok.okP s p then (if (0 ≤ z ∧ z < (p.length : Int)) ∧ fine = true then 0 else 2) else 1
theorem codeT_0 {s : List Int} {p : List (List Int)} {z : Int} {fine : Bool} (h : codeT s p z fine = 0) : spec_l03Ok.okP s p ∧ (0 ≤ z ∧ z < (p.length : Int)) ∧ fine = true := by
  unfold codeT at h
  by_cases c : spec_l03Ok.okP s p
  · rw [if_pos c] at h
    by_cases c2 : (0 ≤ z ∧ z < (p.length : Int)) ∧ fine = true
    · exact ⟨c, c2.1, c2.2⟩
    · rw [if_neg c2] at h; omega
  · rw [if_neg c] at h; omega
theorem askedF (s : List Int) (p : List (List Int)) (z : Int) (fine : Bool) (h : spec_l03Ok.preT s p) : spec_l03Asked.f s p z fine = some (codeT s p z fine) := by
  have hp := h.2.1
  unfold spec_l03Asked.f spec_l03Ok.f spec_l03Zone.f codeT
  rw [if_pos h, Option.bind_some, w64 (by omega) (by omega)]
  by_cases c : spec_l03Ok.okP s p
  · simp only [decide_eq_true c, if_true, Option.bind_some, c]
    by_cases c2 : 0 ≤ z ∧ z < (p.length : Int)
    · have e : (decide (0 ≤ z) && decide (z ≤ (p.length : Int) - 1)) = true := by simp; omega
      rw [e]
      cases fine <;> simp [c2]
    · have e : (decide (0 ≤ z) && decide (z ≤ (p.length : Int) - 1)) = false := by
        by_cases e : 0 ≤ z <;> simp [e]; omega
      rw [e]
      simp [c2]
  · simp [c]
theorem tableCodeF (s : List Int) (p : List (List Int)) (z : Int) (ws : List Int) (h : spec_l03Ok.preT s p) : impl_tableCode.f s p z ws = some (codeT s p z (ws.all fun x => decide (1 ≤ x) && decide (x ≤ 2000))) := by
  have hp := h.2.1
  unfold impl_tableCode.f impl_ValidTable.f impl_size_int16.f impl_areWithin.f impl_unless.f codeT
  rw [if_pos h, Option.bind_some]
  by_cases c : spec_l03Ok.okP s p
  · simp only [decide_eq_true c, if_true, Option.bind_some, c, withinF]
    rw [w64 (by omega) (by omega)]
    by_cases c2 : 0 ≤ z ∧ z < (p.length : Int)
    · have e : (decide (0 ≤ z) && decide (z ≤ (p.length : Int) - 1)) = true := by simp; omega
      rw [e]
      cases (ws.all fun x => decide (1 ≤ x) && decide (x ≤ 2000)) <;> simp [c2]
    · have e : (decide (0 ≤ z) && decide (z ≤ (p.length : Int) - 1)) = false := by
        by_cases e : 0 ≤ z <;> simp [e]; omega
      rw [e]
      simp [c2]
  · simp [c]

end Go.Proofs.Ytpcchfklmcalaaa.Pure

namespace Go.Proofs.Ytpcchfklmcalaaa.Pure
open Go.RowKit Go.Proofs.Ytpcchfklmcalaaa.P Go.Proofs.YtpcchfklmcalaaaW.PrintWords Go.Proofs.YtpcchfklmcalaaaW.PrintLast
set_option linter.unusedVariables false
set_option linter.unusedSimpArgs false

/-- A mark, as a short number; a row of marks. -/
def shortN (m : Nat) : Int := IntKind.i16.wrap (m : Int)
def mk16 (m n : Nat) : List Int := (List.range n).map fun j => shortN (m + j)
theorem mk16_len (m n : Nat) : (mk16 m n).length = n := by simp [mk16]
theorem mk16_at (m n j : Nat) (h : j < n) : (mk16 m n).getD j 0 = shortN (m + j) := by simp [mk16, List.getD_eq_getElem?_getD, h]
theorem mark16_l0 (n m : Nat) (hb : n ≤ 17592186044415) (hm : m ≤ 17592186044415) : ∀ d i x, n - i = d → i ≤ n → x.length = n → (∀ j, j < i → x.getD j 0 = shortN (m + j)) →
    Ev (fun k => laws_markInt16S.l0 k x ((m + i : Nat) : Int) (i : Int)) (((m + n : Nat) : Int), mk16 m n) := by
  intro d
  induction d with
  | zero =>
    intro i x hd hi hx hj
    obtain rfl : i = n := by omega
    refine Ev.step (f := fun _ => some (((m + i : Nat) : Int), x)) (fun k => ?_) ?_
    · rw [laws_markInt16S.l0, if_neg (by omega)]
    · have : x = mk16 m i := list_extG 0 x _ (by rw [mk16_len]; exact hx) (fun j h => by rw [mk16_len] at h; rw [hj j h, mk16_at m i j h])
      rw [this]; exact Ev.now _
  | succ d ih =>
    intro i x hd hi hx hj
    refine Ev.step (fun k => ?_) (ih (i + 1) (x.set i (shortN (m + i))) (by omega) (by omega) (by simpa using hx) ?_)
    · rw [laws_markInt16S.l0, if_pos (by omega), if_pos (by omega), wN i (by omega), wN (m + i) (by omega), Int.toNat_natCast]; rfl
    · intro j h
      rw [getD_setG 0 x i j _ (by omega)]
      by_cases e : i = j
      · rw [if_pos e, e]
      · rw [if_neg e]; exact hj j (by omega)
theorem mark16 (l : List Int) (m : Nat) (hb : l.length ≤ 17592186044415) (hm : m ≤ 17592186044415) : Ev (fun k => laws_markInt16S.f k l (m : Int)) (((m + l.length : Nat) : Int), mk16 m l.length) :=
  mark16_l0 l.length m hb hm _ 0 l rfl (Nat.zero_le _) rfl (fun j h => absurd h (Nat.not_lt_zero _))
theorem held16_l0 (n m : Nat) (hb : n ≤ 17592186044415) (hm : m ≤ 17592186044415) : ∀ d i, n - i = d → i ≤ n → Ev (fun k => laws_heldInt16S.l0 k (mk16 m n) ((m + i : Nat) : Int) (i : Int)) ((m + n : Nat) : Int) := by
  intro d
  induction d with
  | zero =>
    intro i hd hi
    obtain rfl : i = n := by omega
    refine Ev.step (f := fun _ => some (((m + i : Nat) : Int))) (fun k => ?_) (Ev.now _)
    rw [laws_heldInt16S.l0, mk16_len, if_neg (by omega)]
  | succ d ih =>
    intro i hd hi
    refine Ev.step (fun k => ?_) (ih (i + 1) (by omega) (by omega))
    rw [laws_heldInt16S.l0, mk16_len, if_pos (by omega), if_pos (by omega), rdN, mk16_at m n i (by omega), if_pos (show shortN (m + i) = IntKind.i16.wrap ((m + i : Nat) : Int) from rfl), wN i (by omega), wN (m + i) (by omega)]; rfl
theorem held16 (n m : Nat) (hb : n ≤ 17592186044415) (hm : m ≤ 17592186044415) : Ev (fun k => laws_heldInt16S.f k (mk16 m n) (m : Int)) ((m + n : Nat) : Int) :=
  held16_l0 n m hb hm _ 0 rfl (Nat.zero_le _)
/-- The first mark of a row of rows. -/
def off (l : List (List Int)) (m : Nat) : Nat → Nat
  | 0 => m
  | i + 1 => off l m i + (l.getD i []).length
theorem rowLen {l : List (List Int)} (hm : ∀ x ∈ l, x.length ≤ 1048576) (i : Nat) : (l.getD i []).length ≤ 1048576 := by
  by_cases c : i < l.length
  · exact hm _ (getD_memG [] l i c)
  · rw [List.getD_eq_getElem?_getD, List.getElem?_eq_none (by omega)]; simp
theorem off_le {l : List (List Int)} (hm : ∀ x ∈ l, x.length ≤ 1048576) (m : Nat) : ∀ i, off l m i ≤ m + i * 1048576
  | 0 => by simp [off]
  | i + 1 => by
    have h1 := off_le hm m i
    have h2 := rowLen hm i
    rw [off]; omega
def mkP (l : List (List Int)) (m : Nat) : List (List Int) := (List.range l.length).map fun i => mk16 (off l m i) (l.getD i []).length
theorem mkP_len (l : List (List Int)) (m : Nat) : (mkP l m).length = l.length := by simp [mkP]
theorem mkP_at (l : List (List Int)) (m i : Nat) (h : i < l.length) : (mkP l m).getD i [] = mk16 (off l m i) (l.getD i []).length := by
  rw [mkP, List.getD_eq_getElem?_getD, List.getElem?_map, List.getElem?_range h]; rfl
theorem markSS_l0 (l : List (List Int)) (m : Nat) (hb : l.length ≤ 1048576) (hm : ∀ x ∈ l, x.length ≤ 1048576) (h0 : m ≤ 2000000) : ∀ d i x, l.length - i = d → i ≤ l.length → x.length = l.length →
    (∀ j, j < i → x.getD j [] = mk16 (off l m j) (l.getD j []).length) → (∀ j, i ≤ j → x.getD j [] = l.getD j []) → Ev (fun k => laws_markInt16SS.l0 k x (off l m i : Int) (i : Int)) ((off l m l.length : Int), mkP l m) := by
  intro d
  induction d with
  | zero =>
    intro i x hd hi hx hj hk
    obtain rfl : i = l.length := by omega
    refine Ev.step (f := fun _ => some ((off l m l.length : Int), x)) (fun k => ?_) ?_
    · rw [laws_markInt16SS.l0, if_neg (by omega)]
    · have : x = mkP l m := list_extG [] x _ (by rw [mkP_len]; exact hx) (fun j h => by rw [mkP_len] at h; rw [hj j h, mkP_at l m j h])
      rw [this]; exact Ev.now _
  | succ d ih =>
    intro i x hd hi hx hj hk
    have h1 := off_le hm m i
    have h2 := rowLen hm i
    obtain ⟨K1, e1⟩ := EvG (mark16 (l.getD i []) (off l m i) (by omega) (by omega))
    obtain ⟨K2, e2⟩ := EvG (ih (i + 1) (x.set i (mk16 (off l m i) (l.getD i []).length)) (by omega) (by omega) (by simpa using hx) (fun j h => by
      rw [getD_setG [] x i j _ (by omega)]
      by_cases e : i = j
      · rw [if_pos e, e]
      · rw [if_neg e]; exact hj j (by omega)) (fun j h => by
      rw [getD_setG [] x i j _ (by omega), if_neg (by omega)]; exact hk j (by omega)))
    refine EvI (K1 + K2 + 1) fun k hk' => ?_
    obtain ⟨n, rfl⟩ : ∃ n, k = n + 1 := ⟨k - 1, by omega⟩
    rw [laws_markInt16SS.l0, if_pos (by omega), if_pos (by omega), rdL, hk i (Nat.le_refl _), e1 n (by omega), Option.bind_some, wN i (by omega), Int.toNat_natCast]
    exact e2 n (by omega)
theorem markSS (l : List (List Int)) (m : Nat) (hb : l.length ≤ 1048576) (hm : ∀ x ∈ l, x.length ≤ 1048576) (h0 : m ≤ 2000000) : Ev (fun k => laws_markInt16SS.f k l (m : Int)) ((off l m l.length : Int), mkP l m) :=
  markSS_l0 l m hb hm h0 _ 0 l rfl (Nat.zero_le _) rfl (fun j h => absurd h (Nat.not_lt_zero _)) (fun _ _ => rfl)
theorem heldSS_l0 (l : List (List Int)) (m : Nat) (hb : l.length ≤ 1048576) (hm : ∀ x ∈ l, x.length ≤ 1048576) (h0 : m ≤ 2000000) : ∀ d i, l.length - i = d → i ≤ l.length → Ev (fun k => laws_heldInt16SS.l0 k (mkP l m) (off l m i : Int) (i : Int)) (off l m l.length : Int) := by
  intro d
  induction d with
  | zero =>
    intro i hd hi
    obtain rfl : i = l.length := by omega
    refine Ev.step (f := fun _ => some (off l m l.length : Int)) (fun k => ?_) (Ev.now _)
    rw [laws_heldInt16SS.l0, mkP_len, if_neg (by omega)]
  | succ d ih =>
    intro i hd hi
    have h1 := off_le hm m i
    have h2 := rowLen hm i
    obtain ⟨K1, e1⟩ := EvG (held16 (l.getD i []).length (off l m i) (by omega) (by omega))
    obtain ⟨K2, e2⟩ := EvG (ih (i + 1) (by omega) (by omega))
    refine EvI (K1 + K2 + 1) fun k hk => ?_
    obtain ⟨n, rfl⟩ : ∃ n, k = n + 1 := ⟨k - 1, by omega⟩
    rw [laws_heldInt16SS.l0, mkP_len, if_pos (by omega), if_pos (by omega), rdL, mkP_at l m i (by omega), e1 n (by omega), Option.bind_some, if_neg (by omega), wN i (by omega)]
    exact e2 n (by omega)
theorem heldSS (l : List (List Int)) (m : Nat) (hb : l.length ≤ 1048576) (hm : ∀ x ∈ l, x.length ≤ 1048576) (h0 : m ≤ 2000000) : Ev (fun k => laws_heldInt16SS.f k (mkP l m) (m : Int)) (off l m l.length : Int) :=
  heldSS_l0 l m hb hm h0 _ 0 rfl (Nat.zero_le _)
/-- A table is marked, and its marks are found again. -/
theorem markT (s : List Int) (p : List (List Int)) (hs : s.length ≤ 1048576) (hp : p.length ≤ 1048576) (hm : ∀ x ∈ p, x.length ≤ 1048576) : ∃ (n : Nat) (s' : List Int) (p' : List (List Int)), Ev (fun k => laws_markTable.f k s p 1) ((n : Int), s', p') ∧ Ev (fun k => laws_heldTable.f k s' p' 1) (n : Int) := by
  obtain ⟨K1, e1⟩ := EvG (mark16 s 1 (by omega) (by omega))
  obtain ⟨K2, e2⟩ := EvG (markSS p (1 + s.length) hp hm (by omega))
  obtain ⟨K3, e3⟩ := EvG (held16 s.length 1 (by omega) (by omega))
  obtain ⟨K4, e4⟩ := EvG (heldSS p (1 + s.length) hp hm (by omega))
  refine ⟨off p (1 + s.length) p.length, mk16 1 s.length, mkP p (1 + s.length), EvI (K1 + K2) fun k hk => ?_, EvI (K3 + K4) fun k hk => ?_⟩
  · have h1 := e1 k (by omega)
    rw [show ((1 : Nat) : Int) = (1 : Int) from rfl] at h1
    rw [laws_markTable.f, h1, Option.bind_some, e2 k (by omega), Option.bind_some]
  · have h1 := e3 k (by omega)
    rw [show ((1 : Nat) : Int) = (1 : Int) from rfl] at h1
    rw [laws_heldTable.f, h1, Option.bind_some, if_neg (by omega), e4 k (by omega), Option.bind_some, if_neg (by omega)]

end Go.Proofs.Ytpcchfklmcalaaa.Pure

namespace Go.Proofs.Ytpcchfklmcalaaa.Pure
open Go.RowKit Go.Proofs.Ytpcchfklmcalaaa.P Go.Proofs.YtpcchfklmcalaaaW.PrintWords Go.Proofs.YtpcchfklmcalaaaW.PrintLast
set_option linter.unusedVariables false
set_option linter.unusedSimpArgs false

/-- The price behind a rise, ahead of and behind its being made short. -/
def prR (a v : Int) : Int := wrap64 (Int.tdiv (wrap64 ((wrap64 ((wrap64 v) * (wrap64 (100 + a)))) + 99)) 100)
def pr (a v : Int) : Int := IntKind.i16.wrap (prR a v)
theorem i16w {x : Int} (h0 : -32768 ≤ x) (h1 : x ≤ 32767) : IntKind.i16.wrap x = x := by
  simp [IntKind.wrap, IntKind.signed, IntKind.bits]; omega
theorem prR_b {a v : Int} (a0 : 0 ≤ a) (a1 : a ≤ 100) (v0 : 0 ≤ v) (v1 : v ≤ 10000) : 0 ≤ prR a v ∧ prR a v ≤ 20000 := by
  have h1 : 0 ≤ v * (100 + a) := Int.mul_nonneg v0 (by omega)
  have h2 : v * (100 + a) ≤ 10000 * 200 := Int.mul_le_mul v1 (by omega) (by omega) (by omega)
  unfold prR
  rw [w64 (x := v) (by omega) (by omega), w64 (x := 100 + a) (by omega) (by omega)]
  generalize v * (100 + a) = q at h1 h2 ⊢
  rw [w64 (x := q) (by omega) (by omega), w64 (x := q + 99) (by omega) (by omega), Int.tdiv_eq_ediv_of_nonneg (by omega), w64 (by omega) (by omega)]
  omega
theorem pr_eq {a v : Int} (a0 : 0 ≤ a) (a1 : a ≤ 100) (v0 : 0 ≤ v) (v1 : v ≤ 10000) : pr a v = prR a v := by
  obtain ⟨h0, h1⟩ := prR_b a0 a1 v0 v1
  exact i16w (by omega) (by omega)
theorem take1 {α β : Type} (z : α) (f : α → β) (x : List α) (i : Nat) (h : i < x.length) : (x.take (i + 1)).map f = (x.take i).map f ++ [f (x.getD i z)] := by
  rw [List.take_add_one, List.getElem?_eq_getElem h, List.map_append, getD_eqG z x i h]; rfl
def CellB (p : List (List Int)) : Prop := ∀ x ∈ p, x.length ≤ 10 ∧ ∀ v ∈ x, 0 ≤ v ∧ v ≤ 10000
theorem cellB_of {s : List Int} {p : List (List Int)} (h : spec_l03Ok.okP s p) : CellB p := by
  intro x hx
  obtain ⟨z, hz, rfl⟩ := mem_getDG [] p x hx
  obtain ⟨r1, r2⟩ := h.2.1 z hz
  refine ⟨by have := h.2.2.1.2; omega, fun v hv => ?_⟩
  obtain ⟨i, hi, rfl⟩ := mem_getDG 0 _ v hv
  exact r2 i hi
/-- All prices behind the rise are small enough. -/
def okA (p : List (List Int)) (a : Int) : Bool := p.all fun x => x.all fun v => decide (prR a v ≤ 10000)
def riseR (s : List Int) (p : List (List Int)) (a : Int) : List Int × List (List Int) × Int := if okA p a = true then (s, p.map (List.map (pr a)), 0) else ([], [], 3)
theorem iR_l1 (s : List Int) (p : List (List Int)) (a : Int) (z : Nat) (hz : z < p.length) (hb : p.length ≤ 6) (hx : (p.getD z []).length ≤ 10) (acc : List (List Int)) (hacc : acc.length ≤ 10) (r : List Int × List (List Int) × Int)
    (hr : Ev (fun k => impl_WithRise.l0 k a p (p.length : Int) ((z + 1 : Nat) : Int) s (acc ++ [(p.getD z []).map (pr a)])) r) :
    ∀ d i, (p.getD z []).length - i = d → i ≤ (p.getD z []).length → Ev (fun k => impl_WithRise.l1 k a (((p.getD z []).take i).map (pr a)) p (p.length : Int) (z : Int) (p.getD z []) ((p.getD z []).length : Int) (i : Int) s acc) r := by
  intro d
  induction d with
  | zero =>
    intro i hd hi
    obtain rfl : i = (p.getD z []).length := by omega
    refine Ev.step (fun k => ?_) hr
    rw [impl_WithRise.l1, if_neg (by omega), if_pos (by omega), wN z (by omega), List.take_length]
  | succ d ih =>
    intro i hd hi
    refine Ev.step (fun k => ?_) (ih (i + 1) (by omega) (by omega))
    rw [impl_WithRise.l1, if_pos (by omega), if_pos (by omega), if_pos (by omega), if_pos (by rw [List.length_map, List.length_take]; omega), wN i (by omega), take1 0 (pr a) _ i (by omega)]
    rfl
theorem iR_l0 (s : List Int) (p : List (List Int)) (a : Int) (hb : p.length ≤ 6) (hc : CellB p) (b : Bool) (hr : impl_ValidTable.f s (p.map (List.map (pr a))) = some b) : ∀ d z acc, p.length - z = d → z ≤ p.length → acc = (p.take z).map (List.map (pr a)) →
    Ev (fun k => impl_WithRise.l0 k a p (p.length : Int) (z : Int) s acc) (if b = true then (s, p.map (List.map (pr a)), 0) else ([], [], 3)) := by
  intro d
  induction d with
  | zero =>
    intro z acc hd hz ha
    obtain rfl : z = p.length := by omega
    refine Ev.step (f := fun _ => some (if b = true then (s, p.map (List.map (pr a)), 0) else ([], [], 3))) (fun k => ?_) (Ev.now _)
    rw [impl_WithRise.l0, if_neg (by omega), ha, List.take_length, hr, Option.bind_some]
    cases b <;> rfl
  | succ d ih =>
    intro z acc hd hz ha
    have hx := (hc _ (getD_memG [] p z (by omega))).1
    have hl : acc.length ≤ 10 := by rw [ha, List.length_map, List.length_take]; omega
    have h := iR_l1 s p a z (by omega) hb hx acc hl _ (ih (z + 1) (acc ++ [(p.getD z []).map (pr a)]) (by omega) (by omega) (by rw [ha, take1 [] _ p z (by omega)])) _ 0 rfl (Nat.zero_le _)
    refine Ev.step (fun k => ?_) h
    rw [impl_WithRise.l0, if_pos (by omega), if_pos (by omega), if_pos (by omega), rdL]
    rfl
theorem sR_l1 (s : List Int) (p : List (List Int)) (a : Int) (z : Nat) (hz : z < p.length) (hb : p.length ≤ 6) (hx : (p.getD z []).length ≤ 10) (acc : List (List Int)) (hacc : acc.length ≤ 10) (r : List Int × List (List Int) × Int)
    (hr : (∀ j, j < (p.getD z []).length → prR a ((p.getD z []).getD j 0) ≤ 10000) → Ev (fun k => spec_WithRise.l0 k a ((z + 1 : Nat) : Int) s p s (acc ++ [(p.getD z []).map (pr a)])) r)
    (hbad : ∀ j, j < (p.getD z []).length → ¬ prR a ((p.getD z []).getD j 0) ≤ 10000 → r = ([], [], 3)) :
    ∀ d i, (p.getD z []).length - i = d → i ≤ (p.getD z []).length → (∀ j, j < i → prR a ((p.getD z []).getD j 0) ≤ 10000) → Ev (fun k => spec_WithRise.l1 k a (z : Int) (((p.getD z []).take i).map (pr a)) (i : Int) s p s acc) r := by
  intro d
  induction d with
  | zero =>
    intro i hd hi hj
    obtain rfl : i = (p.getD z []).length := by omega
    refine Ev.step (fun k => ?_) (hr hj)
    rw [spec_WithRise.l1, if_pos (by omega), if_pos (by omega), rdL, if_neg (by omega), if_pos (by omega), wN z (by omega), List.take_length]
  | succ d ih =>
    intro i hd hi hj
    have e : ∀ k, spec_WithRise.l1 (k + 1) a (z : Int) (((p.getD z []).take i).map (pr a)) (i : Int) s p s acc = if prR a ((p.getD z []).getD i 0) > 10000 then some ([], [], 3) else (if (((p.getD z []).take i).map (pr a)).length < 70368744177664 then spec_WithRise.l1 k a (z : Int) (((p.getD z []).take i).map (pr a) ++ [pr a ((p.getD z []).getD i 0)]) (wrap64 ((i : Int) + 1)) s p s acc else none) := fun k => by
      rw [spec_WithRise.l1, if_pos (by omega), if_pos (by omega), rdL, if_pos (by omega), if_pos (by omega)]
      rfl
    by_cases c : prR a ((p.getD z []).getD i 0) ≤ 10000
    · refine Ev.step (fun k => ?_) (ih (i + 1) (by omega) (by omega) (fun j h => by
        by_cases e : j = i
        · subst e; exact c
        · exact hj j (by omega)))
      rw [e, if_neg (by omega), if_pos (by rw [List.length_map, List.length_take]; omega), wN i (by omega), take1 0 (pr a) _ i (by omega)]
    · rw [hbad i (by omega) c]
      exact Ev.step (f := fun _ => some ([], [], 3)) (fun k => by rw [e, if_pos (by omega)]) (Ev.now _)
theorem sR_l0 (s : List Int) (p : List (List Int)) (a : Int) (hb : p.length ≤ 6) (hc : CellB p) : ∀ d z acc, p.length - z = d → z ≤ p.length → acc = (p.take z).map (List.map (pr a)) → (∀ y, y < z → ∀ v ∈ p.getD y [], prR a v ≤ 10000) →
    Ev (fun k => spec_WithRise.l0 k a (z : Int) s p s acc) (riseR s p a) := by
  intro d
  induction d with
  | zero =>
    intro z acc hd hz ha hk
    obtain rfl : z = p.length := by omega
    have e : okA p a = true := List.all_eq_true.2 (fun x hx => List.all_eq_true.2 (fun v hv => decide_eq_true (by
      obtain ⟨y, hy, rfl⟩ := mem_getDG [] p x hx
      exact hk y hy v hv)))
    rw [riseR, if_pos e]
    refine Ev.step (f := fun _ => some (s, p.map (List.map (pr a)), 0)) (fun k => ?_) (Ev.now _)
    rw [spec_WithRise.l0, if_neg (by omega), ha, List.take_length]
  | succ d ih =>
    intro z acc hd hz ha hk
    have hx := (hc _ (getD_memG [] p z (by omega))).1
    have hl : acc.length ≤ 10 := by rw [ha, List.length_map, List.length_take]; omega
    have h := sR_l1 s p a z (by omega) hb hx acc hl (riseR s p a) (fun hg => ih (z + 1) (acc ++ [(p.getD z []).map (pr a)]) (by omega) (by omega) (by rw [ha, take1 [] _ p z (by omega)]) (fun y hy v hv => by
      by_cases e : y = z
      · subst e
        obtain ⟨j, hj, rfl⟩ := mem_getDG 0 _ v hv
        exact hg j hj
      · exact hk y (by omega) v hv)) (fun j hj hn => by
      have e : okA p a ≠ true := fun h => hn (of_decide_eq_true (List.all_eq_true.1 (List.all_eq_true.1 h _ (getD_memG [] p z (by omega))) _ (getD_memG 0 _ j hj)))
      rw [riseR, if_neg e]) _ 0 rfl (Nat.zero_le _) (fun j h => absurd h (Nat.not_lt_zero _))
    refine Ev.step (fun k => ?_) h
    rw [spec_WithRise.l0, if_pos (by omega)]
    rfl
theorem rise_pre {s : List Int} {p : List (List Int)} {a : Int} (a0 : 0 ≤ a) (a1 : a ≤ 100) (h : spec_l03Ok.preT s p) (hc : CellB p) : spec_l03Ok.preT s (p.map (List.map (pr a))) := by
  refine ⟨h.1, by rw [List.length_map]; exact h.2.1, h.2.2.1, fun l hl => ?_⟩
  obtain ⟨x, hx, rfl⟩ := List.mem_map.1 hl
  obtain ⟨h1, h2⟩ := hc x hx
  refine ⟨by rw [List.length_map]; omega, fun v hv => ?_⟩
  obtain ⟨u, hu, rfl⟩ := List.mem_map.1 hv
  obtain ⟨g0, g1⟩ := prR_b a0 a1 (h2 u hu).1 (h2 u hu).2
  rw [pr_eq a0 a1 (h2 u hu).1 (h2 u hu).2]
  omega
theorem rise_ok {s : List Int} {p : List (List Int)} {a : Int} (a0 : 0 ≤ a) (a1 : a ≤ 100) (h : spec_l03Ok.okP s p) (hc : CellB p) : decide (spec_l03Ok.okP s (p.map (List.map (pr a)))) = okA p a := by
  have get : ∀ z, z < p.length → (p.map (List.map (pr a))).getD z [] = (p.getD z []).map (pr a) := fun z hz => by
    rw [List.getD_eq_getElem?_getD, List.getElem?_map, List.getElem?_eq_getElem hz, getD_eqG [] p z hz]; rfl
  have get1 : ∀ (x : List Int) i, i < x.length → (x.map (pr a)).getD i 0 = pr a (x.getD i 0) := fun x i hi => by
    rw [List.getD_eq_getElem?_getD, List.getElem?_map, List.getElem?_eq_getElem hi, getD_eqG 0 x i hi]; rfl
  rw [Bool.eq_iff_iff, decide_eq_true_eq]
  constructor
  · intro g
    refine List.all_eq_true.2 (fun x hx => List.all_eq_true.2 (fun v hv => decide_eq_true ?_))
    obtain ⟨z, hz, rfl⟩ := mem_getDG [] p x hx
    obtain ⟨b0, b1⟩ := (hc _ hx).2 v hv
    obtain ⟨i, hi, rfl⟩ := mem_getDG 0 _ v hv
    have h1 := ((g.2.1 z (by rw [List.length_map]; exact hz)).2 i (by rw [get z hz, List.length_map]; exact hi)).2
    rw [get z hz, get1 _ i hi, pr_eq a0 a1 b0 b1] at h1
    exact h1
  · intro g
    refine ⟨h.1, fun z hz => ?_, h.2.2.1, by rw [List.length_map]; exact h.2.2.2⟩
    rw [List.length_map] at hz
    rw [get z hz]
    refine ⟨by rw [List.length_map]; exact (h.2.1 z hz).1, fun i hi => ?_⟩
    rw [List.length_map] at hi
    have hx := getD_memG [] p z hz
    have hv := getD_memG 0 (p.getD z []) i hi
    obtain ⟨b0, b1⟩ := (hc _ hx).2 _ hv
    show 0 ≤ ((p.getD z []).map (pr a)).getD i 0 ∧ ((p.getD z []).map (pr a)).getD i 0 ≤ 10000
    rw [get1 _ i hi, pr_eq a0 a1 b0 b1]
    exact ⟨(prR_b a0 a1 b0 b1).1, of_decide_eq_true (List.all_eq_true.1 (List.all_eq_true.1 g _ hx) _ hv)⟩
theorem riseBoth (s : List Int) (p : List (List Int)) (a : Int) (h : spec_l03Ok.preT s p) : ∃ r : List Int × List (List Int) × Int, Ev (fun k => spec_WithRise.f k s p a) r ∧ Ev (fun k => impl_WithRise.f k s p a) r ∧ r.1.length ≤ 10 ∧ r.2.1.length ≤ 6 ∧ ∀ x ∈ r.2.1, x.length ≤ 10 := by
  by_cases c : spec_l03Ok.okP s p
  · by_cases ca : 0 ≤ a ∧ a ≤ 100
    · obtain ⟨a0, a1⟩ := ca
      have hc := cellB_of c
      have hin : (decide ((0 : Int) ≤ a) && decide (a ≤ 100)) = true := by simp [a0, a1]
      have hv : impl_ValidTable.f s (p.map (List.map (pr a))) = some (okA p a) := by rw [impl_ValidTable.f, if_pos (rise_pre a0 a1 h hc), rise_ok a0 a1 c hc]
      obtain ⟨K1, e1⟩ := EvG (sR_l0 s p a c.2.2.2.2 hc _ 0 [] rfl (Nat.zero_le _) rfl (fun y hy => absurd hy (Nat.not_lt_zero _)))
      obtain ⟨K2, e2⟩ := EvG (iR_l0 s p a c.2.2.2.2 hc _ hv _ 0 [] rfl (Nat.zero_le _) rfl)
      refine ⟨riseR s p a, EvI K1 fun k hk => ?_, EvI K2 fun k hk => ?_, ?_⟩
      · have hcode : codeT s p 0 true = 0 := by
          have := c.2.2.2.1
          rw [codeT, if_pos c, if_pos ⟨⟨Int.le_refl _, by omega⟩, rfl⟩]
        rw [spec_WithRise.f, inF, Option.bind_some, hin, askedF s p 0 true h, Option.bind_some, hcode, if_pos rfl, Option.bind_some, if_pos (by have := c.2.2.1.2; simp; omega), List.nil_append]
        exact e1 k hk
      · rw [impl_WithRise.f, impl_ValidTable.f, if_pos h, Option.bind_some, if_pos (decide_eq_true c), withinF, Option.bind_some, hin, if_pos rfl, slices_Clone_int16_int16.f, Option.bind_some, if_pos (by have := c.2.2.1.2; simp; omega), List.nil_append, Option.bind_some]
        exact e2 k hk
      · rw [riseR]
        split
        · refine ⟨c.2.2.1.2, by rw [List.length_map]; exact c.2.2.2.2, fun x hx => ?_⟩
          obtain ⟨y, hy, rfl⟩ := List.mem_map.1 hx
          rw [List.length_map]; exact (hc y hy).1
        · exact ⟨Nat.zero_le _, Nat.zero_le _, fun x hx => by cases hx⟩
    · have hin : (decide ((0 : Int) ≤ a) && decide (a ≤ 100)) = false := by
        by_cases e : 0 ≤ a
        · have e2 : ¬ a ≤ 100 := fun e2 => ca ⟨e, e2⟩
          simp [e, e2]
        · simp [e]
      refine ⟨([], [], 2), EvI 0 fun k hk => ?_, EvI 0 fun k hk => ?_, Nat.zero_le _, Nat.zero_le _, fun x hx => by cases hx⟩
      · have hcode : codeT s p 0 false = 2 := by rw [codeT, if_pos c, if_neg (by simp)]
        rw [spec_WithRise.f, inF, Option.bind_some, hin, askedF s p 0 false h, Option.bind_some, hcode, if_neg (by decide)]
      · rw [impl_WithRise.f, impl_ValidTable.f, if_pos h, Option.bind_some, if_pos (decide_eq_true c), withinF, Option.bind_some, hin, if_neg (by decide)]
  · refine ⟨([], [], 1), EvI 0 fun k hk => ?_, EvI 0 fun k hk => ?_, Nat.zero_le _, Nat.zero_le _, fun x hx => by cases hx⟩
    · have hcode : ∀ b, codeT s p 0 b = 1 := fun b => by rw [codeT, if_neg c]
      rw [spec_WithRise.f, inF, Option.bind_some, askedF s p 0 _ h, Option.bind_some, hcode, if_neg (by decide)]
    · rw [impl_WithRise.f, impl_ValidTable.f, if_pos h, Option.bind_some, if_neg (by simpa using c)]
theorem FnExactWithRise : laws_FnExactWithRise.Pure := by
  rintro ⟨s, p⟩ a ⟨⟨hs, ws⟩, ⟨hp, wp⟩⟩ _
  obtain ⟨t, t1, t2⟩ := szT s p hs hp (fun x hx => (wp x hx).1)
  obtain ⟨K1, t1⟩ := EvG t1
  by_cases ht : t < 0
  · refine ⟨K1, ?_⟩
    rw [laws_FnExactWithRise.f, t1 _ (Nat.le_refl _), Option.bind_some, if_pos ht]
  · obtain ⟨b1, b2, b3⟩ := t2.resolve_left ht
    obtain ⟨K2, hT⟩ := EvG (toT s p b1 b2 b3)
    obtain ⟨K3, hE⟩ := EvG (eqT s p b1 b2 b3)
    obtain ⟨r, r1, r2, l1, l2, l3⟩ := riseBoth s p a (preOf s p b1 b2 b3 ws (fun x hx => (wp x hx).2))
    obtain ⟨K4, r1⟩ := EvG r1
    obtain ⟨K5, r2⟩ := EvG r2
    have l3' : ∀ x ∈ r.2.1, x.length ≤ 1048576 := fun x hx => by have := l3 x hx; omega
    obtain ⟨K6, hE2⟩ := EvG (eqT r.1 r.2.1 (by omega) (by omega) l3')
    obtain ⟨n, s', p', m1, _⟩ := markT s p b1 b2 b3
    obtain ⟨K7, m1⟩ := EvG m1
    obtain ⟨n2, s2, p2, m2, m3⟩ := markT r.1 r.2.1 (by omega) (by omega) l3'
    obtain ⟨K8, m2⟩ := EvG m2
    obtain ⟨K9, m3⟩ := EvG m3
    refine ⟨K1 + K2 + K3 + K4 + K5 + K6 + K7 + K8 + K9, ?_⟩
    rw [laws_FnExactWithRise.f, t1 _ (by omega), Option.bind_some, if_neg ht, hT _ (by omega), Option.bind_some, r1 _ (by omega), Option.bind_some, r2 _ (by omega), Option.bind_some, hE2 _ (by omega), Option.bind_some, if_pos ⟨rfl, rfl⟩,
      hE _ (by omega), Option.bind_some, if_pos rfl, m1 _ (by omega), Option.bind_some, if_neg (by simp only; omega), m2 _ (by omega), Option.bind_some, m3 _ (by omega), Option.bind_some, if_neg (by omega), if_pos rfl]

end Go.Proofs.Ytpcchfklmcalaaa.Pure

namespace Go.Proofs.Ytpcchfklmcalaaa.X
open Go.ChangeShapes Go.WideShapes Go.ChangeAt Go.RowKit Go.Proofs.YtpcchfklmcalaaaW.PrintWords Go.Deep
set_option linter.unusedVariables false

/-- What reads as data of type t is a value of kind d, and meets wf. -/
def Opens {α : Type} (P : Program) (t : TypeId) (d : Kd α) (wf : α → Prop) : Prop :=
  ∀ (H : Type) (enc : TypeId × Value → H) (W : World) (held : Bool) (fuel : Nat) (cs : List Value) (x : DataW H × List MemPlace), DataW.trod enc P W 0 (fun _ => true) held fuel t cs = some x → ∃ a, d.K W a cs ∧ wf a

theorem Opens.int {P : Program} {t : TypeId} {k : IntKind} (ht : P.underlying t = some (.int k)) : Opens P t (Kd.int k) (fun n => (Lit.int k n).wf = true) := by
  intro H enc W held fuel cs x h
  obtain ⟨n, rfl, _, hw⟩ := DataW.trod_int ht h
  exact ⟨n, rfl, hw⟩

theorem Opens.slice {α : Type} [Inhabited α] {P : Program} {t e : TypeId} {d : Kd α} {wf : α → Prop} (ht : P.underlying t = some (.slice e)) (hc : P.cellsOf e = d.sz) (h : Opens P e d wf) :
    Opens P t (Kd.slice e d) (fun l => l.length ≤ 9223372036854775807 ∧ ∀ a ∈ l, wf a) := by
  intro H enc W held fuel cs x hx
  rcases open_slice ht hx with ⟨rfl, _⟩ | ⟨ad, len, cap, m, n, D, Pl, rfl, _, hl, hm, hmm, _, hel⟩
  · exact ⟨[], ⟨none, 0, rfl, Nat.le_refl _, ⟨rfl, by simp, fun h => absurd h (Nat.lt_irrefl 0)⟩⟩, by simp, fun a ha => by cases ha⟩
  · have hmc : m = cap := by simpa using hmm
    have each : ∀ i, i < len → ∃ a : α, wf a ∧ ∃ c, c.length = d.sz ∧ d.K W a c ∧ ∀ j u, c[j]? = some u → W.cell? (ad.add (i * d.sz + j)) = some u := by
      intro i hi
      obtain ⟨cs', h1, h2⟩ := hel i (by omega)
      obtain ⟨_, hlen, hcell⟩ := World.cells?_some h1
      obtain ⟨a, hK, hw⟩ := h H enc W held n cs' _ h2
      refine ⟨a, hw, cs', by rw [hlen, hc], hK, fun j u hu => ?_⟩
      have hj : j < P.cellsOf e := by have := (List.getElem?_eq_some_iff.1 hu).1; omega
      have h3 := hcell j hj
      rw [hu, hc] at h3
      rw [← h3]
      congr 1
      unfold Addr.add
      by_cases h4 : i * d.sz = 0 <;> by_cases h5 : j = 0 <;> simp [h4, h5, Nat.add_assoc]
    obtain ⟨f, hf⟩ := choose_lt each
    have hlen : ((List.range len).map f).length = len := by simp
    refine ⟨(List.range len).map f, ⟨some ad, cap, by rw [hlen], by rw [hlen]; exact hl, ⟨rfl, by rw [hlen]; unfold maxLen at hm; omega, fun _ => ⟨ad, rfl, fun j p hp => ?_⟩⟩⟩, by rw [hlen]; unfold maxLen at hm; omega, fun a ha => ?_⟩
    · have hj : j < len := by have := (List.getElem?_eq_some_iff.1 hp).1; omega
      have hp2 : f j = p := by simpa [hj] using hp
      rw [← hp2]
      exact (hf j hj).2
    · obtain ⟨i, hi, rfl⟩ := List.mem_map.1 ha
      exact (hf i (List.mem_range.1 hi)).1

theorem Opens.pair {α β : Type} {P : Program} {t : TypeId} {a : Kd α} {b : Kd β} {wa : α → Prop} {wb : β → Prop} {f0 f1 : Field} (hs : P.underlying t = some (.struct #[f0, f1])) (o0 : f0.offset = 0) (c0 : P.cellsOf f0.type = a.sz) (o1 : f1.offset = a.sz) (c1 : P.cellsOf f1.type = b.sz) (hc : P.cellsOf t = a.sz + b.sz)
    (ha : Opens P f0.type a wa) (hb : Opens P f1.type b wb) : Opens P t (Kd.pair a b) (fun x => wa x.1 ∧ wb x.2) := by
  intro H enc W held fuel cs x hx
  obtain ⟨xs, n, _, _, hl, hxl, hf⟩ := DataW.trod_struct hs hx
  have hxl : xs.length = 2 := hxl
  have g0 := hf 0 f0 rfl
  have g1 := hf 1 f1 rfl
  rw [List.getElem?_eq_getElem (by omega)] at g0 g1
  obtain ⟨x0, k0, w0⟩ := ha H enc W held n _ _ g0
  obtain ⟨x1, k1, w1⟩ := hb H enc W held n _ _ g1
  refine ⟨(x0, x1), ⟨_, _, ?_, k0, k1⟩, w0, w1⟩
  rw [o0, o1, c0, c1, List.drop_zero]
  rw [List.take_of_length_le (l := cs.drop a.sz) (by rw [List.length_drop]; omega), List.take_append_drop]

theorem Opens.triple {α β γ : Type} {P : Program} {t : TypeId} {a : Kd α} {b : Kd β} {c : Kd γ} {wa : α → Prop} {wb : β → Prop} {wc : γ → Prop} {f0 f1 f2 : Field} (hs : P.underlying t = some (.struct #[f0, f1, f2])) (o0 : f0.offset = 0) (c0 : P.cellsOf f0.type = a.sz) (o1 : f1.offset = a.sz) (c1 : P.cellsOf f1.type = b.sz) (o2 : f2.offset = a.sz + b.sz) (c2 : P.cellsOf f2.type = c.sz) (hc : P.cellsOf t = a.sz + b.sz + c.sz)
    (ha : Opens P f0.type a wa) (hb : Opens P f1.type b wb) (hcc : Opens P f2.type c wc) : Opens P t (Kd.pair a (Kd.pair b c)) (fun x => wa x.1 ∧ wb x.2.1 ∧ wc x.2.2) := by
  intro H enc W held fuel cs x hx
  obtain ⟨xs, n, _, _, hl, hxl, hf⟩ := DataW.trod_struct hs hx
  have hxl : xs.length = 3 := hxl
  have g0 := hf 0 f0 rfl
  have g1 := hf 1 f1 rfl
  have g2 := hf 2 f2 rfl
  rw [List.getElem?_eq_getElem (by omega)] at g0 g1 g2
  obtain ⟨x0, k0, w0⟩ := ha H enc W held n _ _ g0
  obtain ⟨x1, k1, w1⟩ := hb H enc W held n _ _ g1
  obtain ⟨x2, k2, w2⟩ := hcc H enc W held n _ _ g2
  refine ⟨(x0, x1, x2), ⟨_, _, ?_, k0, ⟨_, _, rfl, k1, k2⟩⟩, w0, w1, w2⟩
  rw [o0, o1, o2, c0, c1, c2, List.drop_zero]
  rw [List.take_of_length_le (l := cs.drop (a.sz + b.sz)) (by rw [List.length_drop]; omega), ← List.drop_drop, List.take_append_drop, List.take_append_drop]

theorem Opens.iso {α β : Type} {P : Program} {t : TypeId} {d : Kd α} {wf : α → Prop} (f : β → α) (g : α → β) (hg : ∀ a, f (g a) = a) (h : Opens P t d wf) : Opens P t (Kd.iso d f) (fun b => wf (f b)) := by
  intro H enc W held fuel cs x hx
  obtain ⟨a, hK, hw⟩ := h H enc W held fuel cs x hx
  refine ⟨g a, ?_, by show wf (f (g a)); rw [hg]; exact hw⟩
  show d.K W (f (g a)) cs
  rw [hg]; exact hK

/-- An argument that is a struct. -/
theorem Opens.agg {α : Type} {P : Program} {t : TypeId} {d : Kd α} {wf : α → Prop} {fs : Array Field} (h : Opens P t d wf) (hs : P.underlying t = some (.struct fs)) {H : Type} {enc : TypeId × Value → H} {W : World} {r : Reach} {b0 : Nat} {v : Value} {dd : DataW H} {ps : List MemPlace}
    (hv : Value.okWide P W r b0 t v) (ht : DataW.Trod enc P W 0 (fun _ => true) true t v dd ps) : ∃ (a : α) (cs : List Value), v = .agg cs.toArray ∧ d.K W a cs ∧ wf a := by
  obtain ⟨cs, rfl, _⟩ := okWide_struct hs hv
  obtain ⟨fuel, hf⟩ := ht
  obtain ⟨a, hK, hw⟩ := h H enc W true fuel _ _ hf
  exact ⟨a, _, by simp [Value.cells], hK, hw⟩
/-- An argument that is a slice. -/
theorem Opens.arg {α : Type} {P : Program} {t e : TypeId} {d : Kd α} {wf : List α → Prop} (h : Opens P t (Kd.slice e d) wf) (ht : P.underlying t = some (.slice e)) {H : Type} {enc : TypeId × Value → H} {W : World} {r : Reach} {b0 : Nat} {v : Value} {dd : DataW H} {ps : List MemPlace}
    (hv : Value.okWide P W r b0 t v) (hT : DataW.Trod enc P W 0 (fun _ => true) true t v dd ps) : ∃ (l : List α) (A : Option Addr) (c : Nat), v = .slice A l.length c ∧ l.length ≤ c ∧ d.C W A l.length l ∧ wf l := by
  obtain ⟨a, len, cap, rfl⟩ := okWide_slice ht hv
  obtain ⟨fuel, hf⟩ := hT
  obtain ⟨l, ⟨A, c, he, hl, hC⟩, hw⟩ := h H enc W true fuel _ _ hf
  have he2 : [Value.slice a len cap] = [Value.slice A l.length c] := by simpa [Value.cells] using he
  injection he2 with he2 _
  exact ⟨l, A, c, he2, hl, hC, hw⟩

end Go.Proofs.Ytpcchfklmcalaaa.X
