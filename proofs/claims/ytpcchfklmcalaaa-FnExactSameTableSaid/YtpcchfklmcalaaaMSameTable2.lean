/- The Go functions that the law FnExactSameTable comes to, as plain Lean functions, the proofs that calls of them return what those tell, and the plain lemmas on them; no condition but those that each theorem states. -/
import Derived.Test.YtpcchfklmcalaaaMSameTable1
import Derived.OpenShut
import Derived.Test.YtpcchfklmcalaaaRows
import Derived.Test.YtpcchfklmcalaaaWMore
import Derived.Deep.Slices
import Derived.WalkKit
import Derived.ProofKit
import Derived.ShutString
import Derived.ChangeOld
import Derived.Below
import Derived.SizedLaws
import Derived.ChangeArms
import Derived.Carry
namespace Go.Proofs.Ytpcchfklmcalaaa.P
open Go.RowKit Go.Proofs.YtpcchfklmcalaaaW.PrintWords Go.Proofs.YtpcchfklmcalaaaW.PrintLast Go.Proofs.YtpcchfklmcalaaaW.PrintMore
attribute [local go_sem] max2_int min2_int max_two min_two max_three min_three max_four min_four   -- for this text's walks alone
set_option linter.unusedVariables false
set_option linter.unusedSimpArgs false

/-! ### laws_FnExactSameTable: function 4 -/
def laws_FnExactSameTable.f (k : Nat) (l0_0 : List Int) (l0_1 : List (List Int)) (l1_0 : List Int) (l1_1 : List (List Int)) : Option (Bool) := (laws_szTable.f k l0_0 l0_1 1048576).bind fun t191 => (if t191 < 0 then (some true) else ((laws_szTable.f k l1_0 l1_1 t191).bind fun t192 => (if t192 < 0 then (some true) else ((laws_toTable.f k l0_0 l0_1).bind fun bt193 => ((laws_toTable.f k l1_0 l1_1).bind fun bt199 => ((spec_SameTable.f k bt193.1 bt193.2 bt199.1 bt199.2).bind fun t205 => ((laws_toTable.f k l0_0 l0_1).bind fun bt206 => ((laws_toTable.f k l1_0 l1_1).bind fun bt213 => ((impl_SameTable.f k bt206.1 bt206.2 bt213.1 bt213.2).bind fun t220 => (if (t220 != t205) = true then (some false) else ((laws_toTable.f k l0_0 l0_1).bind fun bt221 => ((laws_eqTable.f k bt206.1 bt206.2 bt221.1 bt221.2).bind fun t227 => (if t227 = true then ((laws_toTable.f k l1_0 l1_1).bind fun bt228 => ((laws_eqTable.f k bt213.1 bt213.2 bt228.1 bt228.2).bind fun t234 => (if t234 = true then (some true) else (some false)))) else (some false))))))))))))))
theorem laws_FnExactSameTable.mono : ∀ a0 a1 a2 a3 k, LeO (laws_FnExactSameTable.f k a0 a1 a2 a3) (laws_FnExactSameTable.f (k + 1) a0 a1 a2 a3) := by
  intro a0 a1 a2 a3 k
  unfold laws_FnExactSameTable.f
  repeat' first
      | (with_reducible exact impl_SameTable.mono _ _ _ _ _)
      | (with_reducible exact laws_eqTable.mono _ _ _ _ _)
      | (with_reducible exact laws_szTable.mono _ _ _ _)
      | (with_reducible exact laws_toTable.mono _ _ _)
      | (with_reducible exact spec_SameTable.mono _ _ _ _ _)
      | (with_reducible exact LeO.refl _)
      | (with_reducible exact LeO.none _)
      | (with_reducible refine LeO.ite ?_ ?_)
      | (with_reducible refine LeO.bind ?_ (fun _ => ?_))
      | exact impl_SameTable.mono _ _ _ _ _
      | exact laws_eqTable.mono _ _ _ _ _
      | exact laws_szTable.mono _ _ _ _
      | exact laws_toTable.mono _ _ _
      | exact spec_SameTable.mono _ _ _ _ _
      | exact LeO.none _
      | refine LeO.ite ?_ ?_
      | refine LeO.bind ?_ (fun _ => ?_)
set_option maxHeartbeats 8000000 in
set_option maxRecDepth 100000 in
theorem laws_FnExactSameTable.calls (k : Nat) (A0_0 : Option Addr) (c0_0 : Nat) (l0_0 : List Int) (A0_1 : Option Addr) (c0_1 : Nat) (l0_1 : List (List Int)) (A1_0 : Option Addr) (c1_0 : Nat) (l1_0 : List Int) (A1_1 : Option Addr) (c1_1 : Nat) (l1_1 : List (List Int)) (r : Bool) (w : World) (hr0_0 : Kd.C (Kd.int .i16) w A0_0 l0_0.length l0_0) (hc0_0 : l0_0.length ≤ c0_0) (hr0_1 : Kd.C (Kd.slice 57 (Kd.int .i16)) w A0_1 l0_1.length l0_1) (hc0_1 : l0_1.length ≤ c0_1) (hr1_0 : Kd.C (Kd.int .i16) w A1_0 l1_0.length l1_0) (hc1_0 : l1_0.length ≤ c1_0) (hr1_1 : Kd.C (Kd.slice 57 (Kd.int .i16)) w A1_1 l1_1.length l1_1) (hc1_1 : l1_1.length ≤ c1_1) (h : laws_FnExactSameTable.f k l0_0 l0_1 l1_0 l1_1 = some r) (hlaw_ : r = true := by rfl) :
    Calls Try.prog 4 #[.agg #[.slice A0_0 l0_0.length c0_0, .slice A0_1 l0_1.length c0_1], .agg #[.slice A1_0 l1_0.length c1_0, .slice A1_1 l1_1.length c1_1]] w fun e w' => e = .returned (.bool r) ∧ Below w.heap.size w w' := by
  have HLAW := Aside0.mk hlaw_
  clear hlaw_
  have hu25 := Try.underlying25
  have hu28 := Try.underlying28
  have HR0_0 := Aside0.mk hr0_0
  have HC0_0 := Aside0.mk hc0_0
  clear hr0_0 hc0_0
  have HR0_1 := Aside0.mk hr0_1
  have HC0_1 := Aside0.mk hc0_1
  clear hr0_1 hc0_1
  have HR1_0 := Aside0.mk hr1_0
  have HC1_0 := Aside0.mk hc1_0
  clear hr1_0 hc1_0
  have HR1_1 := Aside0.mk hr1_1
  have HC1_1 := Aside0.mk hc1_1
  clear hr1_1 hc1_1
  have HB := Aside0.mk (Below.refl w.heap.size w)
  have H : ((laws_szTable.f k l0_0 l0_1 1048576).bind fun t191 => (if t191 < 0 then (some true) else ((laws_szTable.f k l1_0 l1_1 t191).bind fun t192 => (if t192 < 0 then (some true) else ((laws_toTable.f k l0_0 l0_1).bind fun bt193 => ((laws_toTable.f k l1_0 l1_1).bind fun bt199 => ((spec_SameTable.f k bt193.1 bt193.2 bt199.1 bt199.2).bind fun t205 => ((laws_toTable.f k l0_0 l0_1).bind fun bt206 => ((laws_toTable.f k l1_0 l1_1).bind fun bt213 => ((impl_SameTable.f k bt206.1 bt206.2 bt213.1 bt213.2).bind fun t220 => (if (t220 != t205) = true then (some false) else ((laws_toTable.f k l0_0 l0_1).bind fun bt221 => ((laws_eqTable.f k bt206.1 bt206.2 bt221.1 bt221.2).bind fun t227 => (if t227 = true then ((laws_toTable.f k l1_0 l1_1).bind fun bt228 => ((laws_eqTable.f k bt213.1 bt213.2 bt228.1 bt228.2).bind fun t234 => (if t234 = true then (some true) else (some false)))) else (some false))))))))))))))) = some r := h
  clear h
  replace H := Option.bind_eq_some_iff.mp H
  obtain ⟨t191, A30, H⟩ := H
  replace H : (if t191 < 0 then (some true) else ((laws_szTable.f k l1_0 l1_1 t191).bind fun t192 => (if t192 < 0 then (some true) else ((laws_toTable.f k l0_0 l0_1).bind fun bt193 => ((laws_toTable.f k l1_0 l1_1).bind fun bt199 => ((spec_SameTable.f k bt193.1 bt193.2 bt199.1 bt199.2).bind fun t205 => ((laws_toTable.f k l0_0 l0_1).bind fun bt206 => ((laws_toTable.f k l1_0 l1_1).bind fun bt213 => ((impl_SameTable.f k bt206.1 bt206.2 bt213.1 bt213.2).bind fun t220 => (if (t220 != t205) = true then (some false) else ((laws_toTable.f k l0_0 l0_1).bind fun bt221 => ((laws_eqTable.f k bt206.1 bt206.2 bt221.1 bt221.2).bind fun t227 => (if t227 = true then ((laws_toTable.f k l1_0 l1_1).bind fun bt228 => ((laws_eqTable.f k bt213.1 bt213.2 bt228.1 bt228.2).bind fun t234 => (if t234 = true then (some true) else (some false)))) else (some false)))))))))))))) = some r := H
  have A3 := Aside0.mk A30
  clear A30
  by_cases c4 : t191 < 0
  · rw [if_pos c4] at H
    have c4b0 : decide (t191 < 0) = true := decide_eq_true c4
    clear c4
    obtain rfl := Option.some.inj H
    go_enter Try.func4, Try.ntmps4
    go_wp2_with (first | ((with_reducible refine gate_dst (N := 2) rfl ?_); refine box_event ?hg (N := 2) ?hd (cs := #[.slice A0_0 l0_0.length c0_0, .slice A0_1 l0_1.length c0_1]) (t := 25) ?hr ?_; (case hd => rfl); (case hg => rfl); (case hr => first | (go_simp; done) | (go_simp; rfl)); intro gb189 hg w5 hbox hb; have n0_ := Aside0.mk (below_step (by repeat (first | (with_reducible first | exact HB.out | apply below_alloc | apply pw_below_drewN | apply below_drew1) | exact HB.out)) hb); have n1_ := Aside0.mk (hbox); have n2_ := Aside0.mk ((by rw [hg]; exact (below_size (by repeat (first | (with_reducible first | exact HB.out | apply below_alloc | apply pw_below_drewN | apply below_drew1) | exact HB.out))) : w.heap.size ≤ gb189)); have n3_ := Aside0.mk ((by rw [hg]; exact (below_size (by repeat (first | (with_reducible first | exact HB.out | apply below_alloc | apply pw_below_drewN | apply below_drew1) | exact HB.out))) : w.heap.size ≤ gb189)); clear HB; have HB := n0_; have BK189 := n1_; have GW189 := n2_; have GE189 := n3_; clear n0_ n1_ n2_ n3_; clear hb hbox hg) | ((with_reducible refine gate_dst (N := 3) rfl ?_); refine box_event ?hg (N := 3) ?hd (cs := #[.slice A1_0 l1_0.length c1_0, .slice A1_1 l1_1.length c1_1]) (t := 25) ?hr ?_; (case hd => rfl); (case hg => rfl); (case hr => first | (go_simp; done) | (go_simp; rfl)); intro gb190 hg w6 hbox hb; have n0_ := Aside0.mk (blk_below (g := gb189) (o := .cells #[.slice A0_0 l0_0.length c0_0, .slice A0_1 l0_1.length c0_1] 25 (0, 0)) (by (with_reducible repeat (first | refine blk_drewN ?_ _ | refine blk_drew ?_ | refine blk_alloc ?_ _)); exact BK189.out) hb); have n1_ := Aside0.mk (below_step (by repeat (first | (with_reducible first | exact HB.out | apply below_alloc | apply pw_below_drewN | apply below_drew1 | refine below_set ?_ GE189.out) | exact HB.out)) hb); have n2_ := Aside0.mk (hbox); have n3_ := Aside0.mk ((by rw [hg]; exact (below_size (by repeat (first | (with_reducible first | exact HB.out | apply below_alloc | apply pw_below_drewN | apply below_drew1 | refine below_set ?_ GE189.out) | exact HB.out))) : w.heap.size ≤ gb190)); have n4_ := Aside0.mk ((by rw [hg]; exact (below_size (by repeat (first | (with_reducible first | exact HB.out | apply below_alloc | apply pw_below_drewN | apply below_drew1 | refine below_set ?_ GE189.out) | exact HB.out))) : w.heap.size ≤ gb190)); have n5_ := Aside0.mk ((by rw [hg]; exact Nat.ne_of_lt (blk_lt (g := gb189) (o := .cells #[.slice A0_0 l0_0.length c0_0, .slice A0_1 l0_1.length c0_1] 25 (0, 0)) (by (with_reducible repeat (first | refine blk_drewN ?_ _ | refine blk_drew ?_ | refine blk_alloc ?_ _)); exact BK189.out)) : gb189 ≠ gb190)); have n6_ := Aside0.mk ((by rw [hg]; exact Nat.ne_of_gt (blk_lt (g := gb189) (o := .cells #[.slice A0_0 l0_0.length c0_0, .slice A0_1 l0_1.length c0_1] 25 (0, 0)) (by (with_reducible repeat (first | refine blk_drewN ?_ _ | refine blk_drew ?_ | refine blk_alloc ?_ _)); exact BK189.out)) : gb190 ≠ gb189)); clear BK189; clear HB; have BK189 := n0_; have HB := n1_; have BK190 := n2_; have GW190 := n3_; have GE190 := n4_; have NB189_190 := n5_; have NB190_189 := n6_; clear n0_ n1_ n2_ n3_ n4_ n5_ n6_; clear hb hbox hg; have hnb7 := NB189_190.out; have hnc7 := NB190_189.out; have hcz8_0 : w6.cell? ⟨gb189, 0, none⟩ = some (.slice A0_0 l0_0.length c0_0) := (blk_cell BK189.out 0).trans rfl; have hcz8_1 : w6.cell? ⟨gb189, 1, none⟩ = some (.slice A0_1 l0_1.length c0_1) := (blk_cell BK189.out 1).trans rfl; have hfz8_0 := blk_frozen BK189.out 0; have hfz8_1 := blk_frozen BK189.out 1) | ((with_reducible refine gate_callee (f := 12) rfl ?_); refine goesL_ (some 12) rfl rfl Try.func12 (by kernel_rfl) rfl #[.agg #[.slice A0_0 l0_0.length c0_0, .slice A0_1 l0_1.length c0_1], .int .i64 1048576] rfl (by (try simp only [List.map_toArray, List.map_cons, List.map_nil]); first | done | rfl | (simp only [List.length_drop, List.length_take]; rfl)) ?_; (with_reducible refine (laws_szTable.calls k _ _ l0_0 _ _ l0_1 1048576 t191 _ ?side1 ?side2 ?side3 ?side4 A3.out).mono ?_); (case side1 => repeat (first | exact (Kd.C_below HR0_0.out HB.out) | (with_reducible refine Kd.C_alloc ?_ _) | (with_reducible refine Kd.C_drewN ?_ _) | (with_reducible refine Kd.C_drew ?_))); (case side2 => exact HC0_0.out); (case side3 => repeat (first | exact (Kd.C_below HR0_1.out HB.out) | (with_reducible refine Kd.C_alloc ?_ _) | (with_reducible refine Kd.C_drewN ?_ _) | (with_reducible refine Kd.C_drew ?_))); (case side4 => exact HC0_1.out); rintro e w9 ⟨rfl, hb⟩; refine ⟨_, rfl, ?_⟩; have n0_ := Aside0.mk (blk_below (g := gb189) (o := .cells #[.slice A0_0 l0_0.length c0_0, .slice A0_1 l0_1.length c0_1] 25 (0, 0)) (by (with_reducible repeat (first | refine blk_drewN ?_ _ | refine blk_drew ?_ | refine blk_alloc ?_ _)); exact BK189.out) hb); have n1_ := Aside0.mk (blk_below (g := gb190) (o := .cells #[.slice A1_0 l1_0.length c1_0, .slice A1_1 l1_1.length c1_1] 25 (0, 0)) (by (with_reducible repeat (first | refine blk_drewN ?_ _ | refine blk_drew ?_ | refine blk_alloc ?_ _)); exact BK190.out) hb); have n2_ := Aside0.mk (below_step (by repeat (first | (with_reducible first | exact HB.out | apply below_alloc | apply pw_below_drewN | apply below_drew1 | refine below_set ?_ GE189.out | refine below_set ?_ GE190.out) | exact HB.out)) hb); clear BK189; clear BK190; clear HB; have BK189 := n0_; have BK190 := n1_; have HB := n2_; clear n0_ n1_ n2_; (try clear hb); (try clear hb2); (try clear hk); (try clear hi)))
    go_ret
    exact ⟨by first | rfl | (simp [errW_none, errW_some] <;> rfl) | (simp [*, errW_none, errW_some] <;> rfl), by repeat (first | (with_reducible first | exact HB.out | apply below_alloc | apply pw_below_drewN | apply below_drew1 | refine below_set ?_ GE189.out | refine below_set ?_ GE190.out) | exact HB.out)⟩
  · rw [if_neg c4] at H
    have c4b0 : decide (t191 < 0) = false := decide_eq_false c4
    clear c4
    replace H := Option.bind_eq_some_iff.mp H
    obtain ⟨t192, A100, H⟩ := H
    replace H : (if t192 < 0 then (some true) else ((laws_toTable.f k l0_0 l0_1).bind fun bt193 => ((laws_toTable.f k l1_0 l1_1).bind fun bt199 => ((spec_SameTable.f k bt193.1 bt193.2 bt199.1 bt199.2).bind fun t205 => ((laws_toTable.f k l0_0 l0_1).bind fun bt206 => ((laws_toTable.f k l1_0 l1_1).bind fun bt213 => ((impl_SameTable.f k bt206.1 bt206.2 bt213.1 bt213.2).bind fun t220 => (if (t220 != t205) = true then (some false) else ((laws_toTable.f k l0_0 l0_1).bind fun bt221 => ((laws_eqTable.f k bt206.1 bt206.2 bt221.1 bt221.2).bind fun t227 => (if t227 = true then ((laws_toTable.f k l1_0 l1_1).bind fun bt228 => ((laws_eqTable.f k bt213.1 bt213.2 bt228.1 bt228.2).bind fun t234 => (if t234 = true then (some true) else (some false)))) else (some false)))))))))))) = some r := H
    have A10 := Aside0.mk A100
    clear A100
    by_cases c11 : t192 < 0
    · rw [if_pos c11] at H
      have c11b0 : decide (t192 < 0) = true := decide_eq_true c11
      clear c11
      obtain rfl := Option.some.inj H
      go_enter Try.func4, Try.ntmps4
      go_wp2_with (first | ((with_reducible refine gate_dst (N := 2) rfl ?_); refine box_event ?hg (N := 2) ?hd (cs := #[.slice A0_0 l0_0.length c0_0, .slice A0_1 l0_1.length c0_1]) (t := 25) ?hr ?_; (case hd => rfl); (case hg => rfl); (case hr => first | (go_simp; done) | (go_simp; rfl)); intro gb189 hg w12 hbox hb; have n0_ := Aside0.mk (below_step (by repeat (first | (with_reducible first | exact HB.out | apply below_alloc | apply pw_below_drewN | apply below_drew1) | exact HB.out)) hb); have n1_ := Aside0.mk (hbox); have n2_ := Aside0.mk ((by rw [hg]; exact (below_size (by repeat (first | (with_reducible first | exact HB.out | apply below_alloc | apply pw_below_drewN | apply below_drew1) | exact HB.out))) : w.heap.size ≤ gb189)); have n3_ := Aside0.mk ((by rw [hg]; exact (below_size (by repeat (first | (with_reducible first | exact HB.out | apply below_alloc | apply pw_below_drewN | apply below_drew1) | exact HB.out))) : w.heap.size ≤ gb189)); clear HB; have HB := n0_; have BK189 := n1_; have GW189 := n2_; have GE189 := n3_; clear n0_ n1_ n2_ n3_; clear hb hbox hg) | ((with_reducible refine gate_dst (N := 3) rfl ?_); refine box_event ?hg (N := 3) ?hd (cs := #[.slice A1_0 l1_0.length c1_0, .slice A1_1 l1_1.length c1_1]) (t := 25) ?hr ?_; (case hd => rfl); (case hg => rfl); (case hr => first | (go_simp; done) | (go_simp; rfl)); intro gb190 hg w13 hbox hb; have n0_ := Aside0.mk (blk_below (g := gb189) (o := .cells #[.slice A0_0 l0_0.length c0_0, .slice A0_1 l0_1.length c0_1] 25 (0, 0)) (by (with_reducible repeat (first | refine blk_drewN ?_ _ | refine blk_drew ?_ | refine blk_alloc ?_ _)); exact BK189.out) hb); have n1_ := Aside0.mk (below_step (by repeat (first | (with_reducible first | exact HB.out | apply below_alloc | apply pw_below_drewN | apply below_drew1 | refine below_set ?_ GE189.out) | exact HB.out)) hb); have n2_ := Aside0.mk (hbox); have n3_ := Aside0.mk ((by rw [hg]; exact (below_size (by repeat (first | (with_reducible first | exact HB.out | apply below_alloc | apply pw_below_drewN | apply below_drew1 | refine below_set ?_ GE189.out) | exact HB.out))) : w.heap.size ≤ gb190)); have n4_ := Aside0.mk ((by rw [hg]; exact (below_size (by repeat (first | (with_reducible first | exact HB.out | apply below_alloc | apply pw_below_drewN | apply below_drew1 | refine below_set ?_ GE189.out) | exact HB.out))) : w.heap.size ≤ gb190)); have n5_ := Aside0.mk ((by rw [hg]; exact Nat.ne_of_lt (blk_lt (g := gb189) (o := .cells #[.slice A0_0 l0_0.length c0_0, .slice A0_1 l0_1.length c0_1] 25 (0, 0)) (by (with_reducible repeat (first | refine blk_drewN ?_ _ | refine blk_drew ?_ | refine blk_alloc ?_ _)); exact BK189.out)) : gb189 ≠ gb190)); have n6_ := Aside0.mk ((by rw [hg]; exact Nat.ne_of_gt (blk_lt (g := gb189) (o := .cells #[.slice A0_0 l0_0.length c0_0, .slice A0_1 l0_1.length c0_1] 25 (0, 0)) (by (with_reducible repeat (first | refine blk_drewN ?_ _ | refine blk_drew ?_ | refine blk_alloc ?_ _)); exact BK189.out)) : gb190 ≠ gb189)); clear BK189; clear HB; have BK189 := n0_; have HB := n1_; have BK190 := n2_; have GW190 := n3_; have GE190 := n4_; have NB189_190 := n5_; have NB190_189 := n6_; clear n0_ n1_ n2_ n3_ n4_ n5_ n6_; clear hb hbox hg; have hnb14 := NB189_190.out; have hnc14 := NB190_189.out; have hcz15_0 : w13.cell? ⟨gb189, 0, none⟩ = some (.slice A0_0 l0_0.length c0_0) := (blk_cell BK189.out 0).trans rfl; have hcz15_1 : w13.cell? ⟨gb189, 1, none⟩ = some (.slice A0_1 l0_1.length c0_1) := (blk_cell BK189.out 1).trans rfl; have hfz15_0 := blk_frozen BK189.out 0; have hfz15_1 := blk_frozen BK189.out 1) | ((with_reducible refine gate_callee (f := 12) rfl ?_); refine goesL_ (some 12) rfl rfl Try.func12 (by kernel_rfl) rfl #[.agg #[.slice A0_0 l0_0.length c0_0, .slice A0_1 l0_1.length c0_1], .int .i64 1048576] rfl (by (try simp only [List.map_toArray, List.map_cons, List.map_nil]); first | done | rfl | (simp only [List.length_drop, List.length_take]; rfl)) ?_; (with_reducible refine (laws_szTable.calls k _ _ l0_0 _ _ l0_1 1048576 t191 _ ?side1 ?side2 ?side3 ?side4 A3.out).mono ?_); (case side1 => repeat (first | exact (Kd.C_below HR0_0.out HB.out) | (with_reducible refine Kd.C_alloc ?_ _) | (with_reducible refine Kd.C_drewN ?_ _) | (with_reducible refine Kd.C_drew ?_))); (case side2 => exact HC0_0.out); (case side3 => repeat (first | exact (Kd.C_below HR0_1.out HB.out) | (with_reducible refine Kd.C_alloc ?_ _) | (with_reducible refine Kd.C_drewN ?_ _) | (with_reducible refine Kd.C_drew ?_))); (case side4 => exact HC0_1.out); rintro e w16 ⟨rfl, hb⟩; refine ⟨_, rfl, ?_⟩; have n0_ := Aside0.mk (blk_below (g := gb189) (o := .cells #[.slice A0_0 l0_0.length c0_0, .slice A0_1 l0_1.length c0_1] 25 (0, 0)) (by (with_reducible repeat (first | refine blk_drewN ?_ _ | refine blk_drew ?_ | refine blk_alloc ?_ _)); exact BK189.out) hb); have n1_ := Aside0.mk (blk_below (g := gb190) (o := .cells #[.slice A1_0 l1_0.length c1_0, .slice A1_1 l1_1.length c1_1] 25 (0, 0)) (by (with_reducible repeat (first | refine blk_drewN ?_ _ | refine blk_drew ?_ | refine blk_alloc ?_ _)); exact BK190.out) hb); have n2_ := Aside0.mk (below_step (by repeat (first | (with_reducible first | exact HB.out | apply below_alloc | apply pw_below_drewN | apply below_drew1 | refine below_set ?_ GE189.out | refine below_set ?_ GE190.out) | exact HB.out)) hb); clear BK189; clear BK190; clear HB; have BK189 := n0_; have BK190 := n1_; have HB := n2_; clear n0_ n1_ n2_; (try clear hb); (try clear hb2); (try clear hk); (try clear hi); have hcz17_0 : w16.cell? ⟨gb190, 0, none⟩ = some (.slice A1_0 l1_0.length c1_0) := (blk_cell BK190.out 0).trans rfl; have hcz17_1 : w16.cell? ⟨gb190, 1, none⟩ = some (.slice A1_1 l1_1.length c1_1) := (blk_cell BK190.out 1).trans rfl; have hfz17_0 := blk_frozen BK190.out 0; have hfz17_1 := blk_frozen BK190.out 1) | ((with_reducible refine gate_callee (f := 12) rfl ?_); refine goesL_ (some 17) rfl rfl Try.func12 (by kernel_rfl) rfl #[.agg #[.slice A1_0 l1_0.length c1_0, .slice A1_1 l1_1.length c1_1], .int .i64 t191] rfl (by (try simp only [List.map_toArray, List.map_cons, List.map_nil]); first | done | rfl | (simp only [List.length_drop, List.length_take]; rfl)) ?_; (with_reducible refine (laws_szTable.calls k _ _ l1_0 _ _ l1_1 t191 t192 _ ?side1 ?side2 ?side3 ?side4 A10.out).mono ?_); (case side1 => repeat (first | exact (Kd.C_below HR1_0.out HB.out) | (with_reducible refine Kd.C_alloc ?_ _) | (with_reducible refine Kd.C_drewN ?_ _) | (with_reducible refine Kd.C_drew ?_))); (case side2 => exact HC1_0.out); (case side3 => repeat (first | exact (Kd.C_below HR1_1.out HB.out) | (with_reducible refine Kd.C_alloc ?_ _) | (with_reducible refine Kd.C_drewN ?_ _) | (with_reducible refine Kd.C_drew ?_))); (case side4 => exact HC1_1.out); rintro e w18 ⟨rfl, hb⟩; refine ⟨_, rfl, ?_⟩; have n0_ := Aside0.mk (blk_below (g := gb189) (o := .cells #[.slice A0_0 l0_0.length c0_0, .slice A0_1 l0_1.length c0_1] 25 (0, 0)) (by (with_reducible repeat (first | refine blk_drewN ?_ _ | refine blk_drew ?_ | refine blk_alloc ?_ _)); exact BK189.out) hb); have n1_ := Aside0.mk (blk_below (g := gb190) (o := .cells #[.slice A1_0 l1_0.length c1_0, .slice A1_1 l1_1.length c1_1] 25 (0, 0)) (by (with_reducible repeat (first | refine blk_drewN ?_ _ | refine blk_drew ?_ | refine blk_alloc ?_ _)); exact BK190.out) hb); have n2_ := Aside0.mk (below_step (by repeat (first | (with_reducible first | exact HB.out | apply below_alloc | apply pw_below_drewN | apply below_drew1 | refine below_set ?_ GE189.out | refine below_set ?_ GE190.out) | exact HB.out)) hb); clear BK189; clear BK190; clear HB; have BK189 := n0_; have BK190 := n1_; have HB := n2_; clear n0_ n1_ n2_; (try clear hb); (try clear hb2); (try clear hk); (try clear hi)))
      go_ret
      exact ⟨by first | rfl | (simp [errW_none, errW_some] <;> rfl) | (simp [*, errW_none, errW_some] <;> rfl), by repeat (first | (with_reducible first | exact HB.out | apply below_alloc | apply pw_below_drewN | apply below_drew1 | refine below_set ?_ GE189.out | refine below_set ?_ GE190.out) | exact HB.out)⟩
    · rw [if_neg c11] at H
      have c11b0 : decide (t192 < 0) = false := decide_eq_false c11
      clear c11
      replace H := Option.bind_eq_some_iff.mp H
      obtain ⟨⟨t193, t196⟩, A190, H⟩ := H
      replace H : ((laws_toTable.f k l1_0 l1_1).bind fun bt199 => ((spec_SameTable.f k t193 t196 bt199.1 bt199.2).bind fun t205 => ((laws_toTable.f k l0_0 l0_1).bind fun bt206 => ((laws_toTable.f k l1_0 l1_1).bind fun bt213 => ((impl_SameTable.f k bt206.1 bt206.2 bt213.1 bt213.2).bind fun t220 => (if (t220 != t205) = true then (some false) else ((laws_toTable.f k l0_0 l0_1).bind fun bt221 => ((laws_eqTable.f k bt206.1 bt206.2 bt221.1 bt221.2).bind fun t227 => (if t227 = true then ((laws_toTable.f k l1_0 l1_1).bind fun bt228 => ((laws_eqTable.f k bt213.1 bt213.2 bt228.1 bt228.2).bind fun t234 => (if t234 = true then (some true) else (some false)))) else (some false)))))))))) = some r := H
      have A19 := Aside0.mk A190
      clear A190
      replace H := Option.bind_eq_some_iff.mp H
      obtain ⟨⟨t199, t202⟩, A200, H⟩ := H
      replace H : ((spec_SameTable.f k t193 t196 t199 t202).bind fun t205 => ((laws_toTable.f k l0_0 l0_1).bind fun bt206 => ((laws_toTable.f k l1_0 l1_1).bind fun bt213 => ((impl_SameTable.f k bt206.1 bt206.2 bt213.1 bt213.2).bind fun t220 => (if (t220 != t205) = true then (some false) else ((laws_toTable.f k l0_0 l0_1).bind fun bt221 => ((laws_eqTable.f k bt206.1 bt206.2 bt221.1 bt221.2).bind fun t227 => (if t227 = true then ((laws_toTable.f k l1_0 l1_1).bind fun bt228 => ((laws_eqTable.f k bt213.1 bt213.2 bt228.1 bt228.2).bind fun t234 => (if t234 = true then (some true) else (some false)))) else (some false))))))))) = some r := H
      have A20 := Aside0.mk A200
      clear A200
      replace H := Option.bind_eq_some_iff.mp H
      obtain ⟨t205, A210, H⟩ := H
      replace H : ((laws_toTable.f k l0_0 l0_1).bind fun bt206 => ((laws_toTable.f k l1_0 l1_1).bind fun bt213 => ((impl_SameTable.f k bt206.1 bt206.2 bt213.1 bt213.2).bind fun t220 => (if (t220 != t205) = true then (some false) else ((laws_toTable.f k l0_0 l0_1).bind fun bt221 => ((laws_eqTable.f k bt206.1 bt206.2 bt221.1 bt221.2).bind fun t227 => (if t227 = true then ((laws_toTable.f k l1_0 l1_1).bind fun bt228 => ((laws_eqTable.f k bt213.1 bt213.2 bt228.1 bt228.2).bind fun t234 => (if t234 = true then (some true) else (some false)))) else (some false)))))))) = some r := H
      have A21 := Aside0.mk A210
      clear A210
      replace H := Option.bind_eq_some_iff.mp H
      obtain ⟨⟨t206, t209⟩, A220, H⟩ := H
      replace H : ((laws_toTable.f k l1_0 l1_1).bind fun bt213 => ((impl_SameTable.f k t206 t209 bt213.1 bt213.2).bind fun t220 => (if (t220 != t205) = true then (some false) else ((laws_toTable.f k l0_0 l0_1).bind fun bt221 => ((laws_eqTable.f k t206 t209 bt221.1 bt221.2).bind fun t227 => (if t227 = true then ((laws_toTable.f k l1_0 l1_1).bind fun bt228 => ((laws_eqTable.f k bt213.1 bt213.2 bt228.1 bt228.2).bind fun t234 => (if t234 = true then (some true) else (some false)))) else (some false))))))) = some r := H
      have A22 := Aside0.mk A220
      clear A220
      replace H := Option.bind_eq_some_iff.mp H
      obtain ⟨⟨t213, t216⟩, A230, H⟩ := H
      replace H : ((impl_SameTable.f k t206 t209 t213 t216).bind fun t220 => (if (t220 != t205) = true then (some false) else ((laws_toTable.f k l0_0 l0_1).bind fun bt221 => ((laws_eqTable.f k t206 t209 bt221.1 bt221.2).bind fun t227 => (if t227 = true then ((laws_toTable.f k l1_0 l1_1).bind fun bt228 => ((laws_eqTable.f k t213 t216 bt228.1 bt228.2).bind fun t234 => (if t234 = true then (some true) else (some false)))) else (some false)))))) = some r := H
      have A23 := Aside0.mk A230
      clear A230
      replace H := Option.bind_eq_some_iff.mp H
      obtain ⟨t220, A240, H⟩ := H
      replace H : (if (t220 != t205) = true then (some false) else ((laws_toTable.f k l0_0 l0_1).bind fun bt221 => ((laws_eqTable.f k t206 t209 bt221.1 bt221.2).bind fun t227 => (if t227 = true then ((laws_toTable.f k l1_0 l1_1).bind fun bt228 => ((laws_eqTable.f k t213 t216 bt228.1 bt228.2).bind fun t234 => (if t234 = true then (some true) else (some false)))) else (some false))))) = some r := H
      have A24 := Aside0.mk A240
      clear A240
      by_cases c25 : (t220 != t205) = true
      · rw [if_pos c25] at H
        have c25b0 : (t220 != t205) = true := c25
        (try (have c25b1 : decide (t220 = t205) = false := by simpa using c25))
        (try (have c25b2 : (t220 == t205) = false := by simpa using c25))
        (try (have c25b3 : ¬ (t220 = t205) := by simpa using c25))
        clear c25
        exact absurd ((Option.some.inj H).trans HLAW.out) (by decide)
      · rw [if_neg c25] at H
        have c25b0 : (t220 != t205) = false := by simpa using c25
        (try (have c25b1 : decide (t220 = t205) = true := by simpa using c25))
        (try (have c25b2 : (t220 == t205) = true := by simpa using c25))
        clear c25
        replace H := Option.bind_eq_some_iff.mp H
        obtain ⟨⟨t221, t224⟩, A260, H⟩ := H
        replace H : ((laws_eqTable.f k t206 t209 t221 t224).bind fun t227 => (if t227 = true then ((laws_toTable.f k l1_0 l1_1).bind fun bt228 => ((laws_eqTable.f k t213 t216 bt228.1 bt228.2).bind fun t234 => (if t234 = true then (some true) else (some false)))) else (some false))) = some r := H
        have A26 := Aside0.mk A260
        clear A260
        replace H := Option.bind_eq_some_iff.mp H
        obtain ⟨t227, A270, H⟩ := H
        replace H : (if t227 = true then ((laws_toTable.f k l1_0 l1_1).bind fun bt228 => ((laws_eqTable.f k t213 t216 bt228.1 bt228.2).bind fun t234 => (if t234 = true then (some true) else (some false)))) else (some false)) = some r := H
        have A27 := Aside0.mk A270
        clear A270
        by_cases c28 : t227 = true
        · subst c28
          have H1 : ((laws_toTable.f k l1_0 l1_1).bind fun bt228 => ((laws_eqTable.f k t213 t216 bt228.1 bt228.2).bind fun t234 => (if t234 = true then (some true) else (some false)))) = some r := by rw [if_pos rfl] at H; exact H
          clear H
          have H := H1
          clear H1
          replace H := Option.bind_eq_some_iff.mp H
          obtain ⟨⟨t228, t231⟩, A290, H⟩ := H
          replace H : ((laws_eqTable.f k t213 t216 t228 t231).bind fun t234 => (if t234 = true then (some true) else (some false))) = some r := H
          have A29 := Aside0.mk A290
          clear A290
          replace H := Option.bind_eq_some_iff.mp H
          obtain ⟨t234, A300, H⟩ := H
          replace H : (if t234 = true then (some true) else (some false)) = some r := H
          have A30 := Aside0.mk A300
          clear A300
          by_cases c31 : t234 = true
          · subst c31
            have H1 : (some true) = some r := by rw [if_pos rfl] at H; exact H
            clear H
            have H := H1
            clear H1
            obtain rfl := Option.some.inj H
            go_enter Try.func4, Try.ntmps4
            try go_wp2_with (first | ((with_reducible refine gate_dst (N := 2) rfl ?_); refine box_event ?hg (N := 2) ?hd (cs := #[.slice A0_0 l0_0.length c0_0, .slice A0_1 l0_1.length c0_1]) (t := 25) ?hr ?_; (case hd => rfl); (case hg => rfl); (case hr => first | (go_simp; done) | (go_simp; rfl)); intro gb189 hg w32 hbox hb; have n0_ := Aside0.mk (below_step (by repeat (first | (with_reducible first | exact HB.out | apply below_alloc | apply pw_below_drewN | apply below_drew1) | exact HB.out)) hb); have n1_ := Aside0.mk (hbox); have n2_ := Aside0.mk ((by rw [hg]; exact (below_size (by repeat (first | (with_reducible first | exact HB.out | apply below_alloc | apply pw_below_drewN | apply below_drew1) | exact HB.out))) : w.heap.size ≤ gb189)); have n3_ := Aside0.mk ((by rw [hg]; exact (below_size (by repeat (first | (with_reducible first | exact HB.out | apply below_alloc | apply pw_below_drewN | apply below_drew1) | exact HB.out))) : w.heap.size ≤ gb189)); clear HB; have HB := n0_; have BK189 := n1_; have GW189 := n2_; have GE189 := n3_; clear n0_ n1_ n2_ n3_; clear hb hbox hg) | ((with_reducible refine gate_dst (N := 3) rfl ?_); refine box_event ?hg (N := 3) ?hd (cs := #[.slice A1_0 l1_0.length c1_0, .slice A1_1 l1_1.length c1_1]) (t := 25) ?hr ?_; (case hd => rfl); (case hg => rfl); (case hr => first | (go_simp; done) | (go_simp; rfl)); intro gb190 hg w33 hbox hb; have n0_ := Aside0.mk (blk_below (g := gb189) (o := .cells #[.slice A0_0 l0_0.length c0_0, .slice A0_1 l0_1.length c0_1] 25 (0, 0)) (by (with_reducible repeat (first | refine blk_drewN ?_ _ | refine blk_drew ?_ | refine blk_alloc ?_ _)); exact BK189.out) hb); have n1_ := Aside0.mk (below_step (by repeat (first | (with_reducible first | exact HB.out | apply below_alloc | apply pw_below_drewN | apply below_drew1 | refine below_set ?_ GE189.out) | exact HB.out)) hb); have n2_ := Aside0.mk (hbox); have n3_ := Aside0.mk ((by rw [hg]; exact (below_size (by repeat (first | (with_reducible first | exact HB.out | apply below_alloc | apply pw_below_drewN | apply below_drew1 | refine below_set ?_ GE189.out) | exact HB.out))) : w.heap.size ≤ gb190)); have n4_ := Aside0.mk ((by rw [hg]; exact (below_size (by repeat (first | (with_reducible first | exact HB.out | apply below_alloc | apply pw_below_drewN | apply below_drew1 | refine below_set ?_ GE189.out) | exact HB.out))) : w.heap.size ≤ gb190)); have n5_ := Aside0.mk ((by rw [hg]; exact Nat.ne_of_lt (blk_lt (g := gb189) (o := .cells #[.slice A0_0 l0_0.length c0_0, .slice A0_1 l0_1.length c0_1] 25 (0, 0)) (by (with_reducible repeat (first | refine blk_drewN ?_ _ | refine blk_drew ?_ | refine blk_alloc ?_ _)); exact BK189.out)) : gb189 ≠ gb190)); have n6_ := Aside0.mk ((by rw [hg]; exact Nat.ne_of_gt (blk_lt (g := gb189) (o := .cells #[.slice A0_0 l0_0.length c0_0, .slice A0_1 l0_1.length c0_1] 25 (0, 0)) (by (with_reducible repeat (first | refine blk_drewN ?_ _ | refine blk_drew ?_ | refine blk_alloc ?_ _)); exact BK189.out)) : gb190 ≠ gb189)); clear BK189; clear HB; have BK189 := n0_; have HB := n1_; have BK190 := n2_; have GW190 := n3_; have GE190 := n4_; have NB189_190 := n5_; have NB190_189 := n6_; clear n0_ n1_ n2_ n3_ n4_ n5_ n6_; clear hb hbox hg; have hnb34 := NB189_190.out; have hnc34 := NB190_189.out; have hcz35_0 : w33.cell? ⟨gb189, 0, none⟩ = some (.slice A0_0 l0_0.length c0_0) := (blk_cell BK189.out 0).trans rfl; have hcz35_1 : w33.cell? ⟨gb189, 1, none⟩ = some (.slice A0_1 l0_1.length c0_1) := (blk_cell BK189.out 1).trans rfl; have hfz35_0 := blk_frozen BK189.out 0; have hfz35_1 := blk_frozen BK189.out 1) | ((with_reducible refine gate_callee (f := 12) rfl ?_); refine goesL_ (some 12) rfl rfl Try.func12 (by kernel_rfl) rfl #[.agg #[.slice A0_0 l0_0.length c0_0, .slice A0_1 l0_1.length c0_1], .int .i64 1048576] rfl (by (try simp only [List.map_toArray, List.map_cons, List.map_nil]); first | done | rfl | (simp only [List.length_drop, List.length_take]; rfl)) ?_; (with_reducible refine (laws_szTable.calls k _ _ l0_0 _ _ l0_1 1048576 t191 _ ?side1 ?side2 ?side3 ?side4 A3.out).mono ?_); (case side1 => repeat (first | exact (Kd.C_below HR0_0.out HB.out) | (with_reducible refine Kd.C_alloc ?_ _) | (with_reducible refine Kd.C_drewN ?_ _) | (with_reducible refine Kd.C_drew ?_))); (case side2 => exact HC0_0.out); (case side3 => repeat (first | exact (Kd.C_below HR0_1.out HB.out) | (with_reducible refine Kd.C_alloc ?_ _) | (with_reducible refine Kd.C_drewN ?_ _) | (with_reducible refine Kd.C_drew ?_))); (case side4 => exact HC0_1.out); rintro e w36 ⟨rfl, hb⟩; refine ⟨_, rfl, ?_⟩; have n0_ := Aside0.mk (blk_below (g := gb189) (o := .cells #[.slice A0_0 l0_0.length c0_0, .slice A0_1 l0_1.length c0_1] 25 (0, 0)) (by (with_reducible repeat (first | refine blk_drewN ?_ _ | refine blk_drew ?_ | refine blk_alloc ?_ _)); exact BK189.out) hb); have n1_ := Aside0.mk (blk_below (g := gb190) (o := .cells #[.slice A1_0 l1_0.length c1_0, .slice A1_1 l1_1.length c1_1] 25 (0, 0)) (by (with_reducible repeat (first | refine blk_drewN ?_ _ | refine blk_drew ?_ | refine blk_alloc ?_ _)); exact BK190.out) hb); have n2_ := Aside0.mk (below_step (by repeat (first | (with_reducible first | exact HB.out | apply below_alloc | apply pw_below_drewN | apply below_drew1 | refine below_set ?_ GE189.out | refine below_set ?_ GE190.out) | exact HB.out)) hb); clear BK189; clear BK190; clear HB; have BK189 := n0_; have BK190 := n1_; have HB := n2_; clear n0_ n1_ n2_; (try clear hb); (try clear hb2); (try clear hk); (try clear hi); have hcz37_0 : w36.cell? ⟨gb190, 0, none⟩ = some (.slice A1_0 l1_0.length c1_0) := (blk_cell BK190.out 0).trans rfl; have hcz37_1 : w36.cell? ⟨gb190, 1, none⟩ = some (.slice A1_1 l1_1.length c1_1) := (blk_cell BK190.out 1).trans rfl; have hfz37_0 := blk_frozen BK190.out 0; have hfz37_1 := blk_frozen BK190.out 1) | ((with_reducible refine gate_callee (f := 12) rfl ?_); refine goesL_ (some 17) rfl rfl Try.func12 (by kernel_rfl) rfl #[.agg #[.slice A1_0 l1_0.length c1_0, .slice A1_1 l1_1.length c1_1], .int .i64 t191] rfl (by (try simp only [List.map_toArray, List.map_cons, List.map_nil]); first | done | rfl | (simp only [List.length_drop, List.length_take]; rfl)) ?_; (with_reducible refine (laws_szTable.calls k _ _ l1_0 _ _ l1_1 t191 t192 _ ?side1 ?side2 ?side3 ?side4 A10.out).mono ?_); (case side1 => repeat (first | exact (Kd.C_below HR1_0.out HB.out) | (with_reducible refine Kd.C_alloc ?_ _) | (with_reducible refine Kd.C_drewN ?_ _) | (with_reducible refine Kd.C_drew ?_))); (case side2 => exact HC1_0.out); (case side3 => repeat (first | exact (Kd.C_below HR1_1.out HB.out) | (with_reducible refine Kd.C_alloc ?_ _) | (with_reducible refine Kd.C_drewN ?_ _) | (with_reducible refine Kd.C_drew ?_))); (case side4 => exact HC1_1.out); rintro e w38 ⟨rfl, hb⟩; refine ⟨_, rfl, ?_⟩; have n0_ := Aside0.mk (blk_below (g := gb189) (o := .cells #[.slice A0_0 l0_0.length c0_0, .slice A0_1 l0_1.length c0_1] 25 (0, 0)) (by (with_reducible repeat (first | refine blk_drewN ?_ _ | refine blk_drew ?_ | refine blk_alloc ?_ _)); exact BK189.out) hb); have n1_ := Aside0.mk (blk_below (g := gb190) (o := .cells #[.slice A1_0 l1_0.length c1_0, .slice A1_1 l1_1.length c1_1] 25 (0, 0)) (by (with_reducible repeat (first | refine blk_drewN ?_ _ | refine blk_drew ?_ | refine blk_alloc ?_ _)); exact BK190.out) hb); have n2_ := Aside0.mk (below_step (by repeat (first | (with_reducible first | exact HB.out | apply below_alloc | apply pw_below_drewN | apply below_drew1 | refine below_set ?_ GE189.out | refine below_set ?_ GE190.out) | exact HB.out)) hb); clear BK189; clear BK190; clear HB; have BK189 := n0_; have BK190 := n1_; have HB := n2_; clear n0_ n1_ n2_; (try clear hb); (try clear hb2); (try clear hk); (try clear hi)))
            have n0_ := Aside0.mk (blk_drew BK189.out)
            have n1_ := Aside0.mk (blk_drew BK190.out)
            have n2_ := Aside0.mk (below_drew1 HB.out)
            clear BK189
            clear BK190
            clear HB
            have BK189 := n0_
            have BK190 := n1_
            have HB := n2_
            clear n0_ n1_ n2_
            refine start_ (n := 6) (S := fun w' => w'.cell? ⟨gb189, 0, none⟩ = some (.slice A0_0 l0_0.length c0_0) ∧ w'.cell? ⟨gb189, 1, none⟩ = some (.slice A0_1 l0_1.length c0_1) ∧ w'.cell? ⟨gb190, 0, none⟩ = some (.slice A1_0 l1_0.length c1_0) ∧ w'.cell? ⟨gb190, 1, none⟩ = some (.slice A1_1 l1_1.length c1_1)) (ds := []) #[false, false, false, false, false, false] (by kernel_rfl) rfl rfl ⟨(blk_cell BK189.out 0).trans rfl, (blk_cell BK189.out 1).trans rfl, (blk_cell BK190.out 0).trans rfl, (blk_cell BK190.out 1).trans rfl⟩ (fun hHeld => ?_)
            generalize w38.drew = w39 at BK189 BK190 HB hHeld ⊢
            refine take_ (i := 0) (N := some 20) (v := ?_) (a' := ?_) #[true, false, false, false, false, false] rfl rfl (by kernel_rfl) (fun _ _ _ h => h) (Or.inl ⟨by rfl, ?_⟩) hHeld ?_ ?_
            rotate_left
            · rintro w' ⟨s0, s1, s2, s3⟩
              go_simp
              with_reducible rfl
            rotate_left
            · simp only [Act.put, List.setIfInBounds_toArray, List.set_cons_zero, List.set_cons_succ, i64_w, i32_w]
              rfl
            refine take_ (i := 2) (N := some 22) (v := ?_) (a' := ?_) #[true, false, true, false, false, false] rfl rfl (by kernel_rfl) (fun _ _ _ h => h) (Or.inl ⟨by rfl, ?_⟩) hHeld ?_ ?_
            rotate_left
            · rintro w' ⟨s0, s1, s2, s3⟩
              go_simp
              with_reducible rfl
            rotate_left
            · simp only [Act.put, List.setIfInBounds_toArray, List.set_cons_zero, List.set_cons_succ, i64_w, i32_w]
              rfl
            refine one_ (i := 1) (N := some 21) #[true, true, true, false, false, false] rfl rfl (by kernel_rfl) (by decide) (fun K hK => ?_)
            refine goes_ Try.func14 (by kernel_rfl) rfl #[.agg #[.slice A0_0 l0_0.length c0_0, .slice A0_1 l0_1.length c0_1]] (by rfl) rfl rfl (by (try simp only [List.map_toArray, List.map_cons, List.map_nil]); first | done | rfl | (simp only [List.length_drop, List.length_take]; rfl)) ?_
            with_reducible refine (laws_toTable.calls k _ _ l0_0 _ _ l0_1 t193 t196 _ ?side1 ?side2 ?side3 ?side4 A19.out).mono ?_
            (case side1 => repeat (first | exact (Kd.C_below HR0_0.out HB.out) | (with_reducible refine Kd.C_alloc ?_ _) | (with_reducible refine Kd.C_drewN ?_ _) | (with_reducible refine Kd.C_drew ?_)))
            (case side2 => exact HC0_0.out)
            (case side3 => repeat (first | exact (Kd.C_below HR0_1.out HB.out) | (with_reducible refine Kd.C_alloc ?_ _) | (with_reducible refine Kd.C_drewN ?_ _) | (with_reducible refine Kd.C_drew ?_)))
            (case side4 => exact HC0_1.out)
            rintro e w40 ⟨v194, v197, rfl, ho0, ho1, hb⟩
            refine ⟨_, rfl, ?_⟩
            have n0_ := Aside0.mk (Kd.R_lower ho0 (below_size (by repeat (first | (with_reducible first | exact HB.out | apply below_alloc | apply pw_below_drewN | apply below_drew1 | refine below_set ?_ GE189.out | refine below_set ?_ GE190.out) | exact HB.out))))
            have n1_ := Aside0.mk (Kd.S_lower ho1 (below_size (by repeat (first | (with_reducible first | exact HB.out | apply below_alloc | apply pw_below_drewN | apply below_drew1 | refine below_set ?_ GE189.out | refine below_set ?_ GE190.out) | exact HB.out))))
            have n2_ := Aside0.mk (blk_below (g := gb189) (o := .cells #[.slice A0_0 l0_0.length c0_0, .slice A0_1 l0_1.length c0_1] 25 (0, 0)) (by (with_reducible repeat (first | refine blk_drewN ?_ _ | refine blk_drew ?_ | refine blk_alloc ?_ _)); exact BK189.out) hb)
            have n3_ := Aside0.mk (blk_below (g := gb190) (o := .cells #[.slice A1_0 l1_0.length c1_0, .slice A1_1 l1_1.length c1_1] 25 (0, 0)) (by (with_reducible repeat (first | refine blk_drewN ?_ _ | refine blk_drew ?_ | refine blk_alloc ?_ _)); exact BK190.out) hb)
            have n4_ := Aside0.mk (below_step (by repeat (first | (with_reducible first | exact HB.out | apply below_alloc | apply pw_below_drewN | apply below_drew1 | refine below_set ?_ GE189.out | refine below_set ?_ GE190.out) | exact HB.out)) hb)
            clear BK189
            clear BK190
            clear HB
            have HO195 := n0_
            have HO198 := n1_
            have BK189 := n2_
            have BK190 := n3_
            have HB := n4_
            clear n0_ n1_ n2_ n3_ n4_
            (try clear hb)
            (try clear hb2)
            (try clear hk)
            (try clear hi)
            (try clear ho0)
            (try clear ho1)
            refine hK.out _ _ ⟨(blk_cell BK189.out 0).trans rfl, (blk_cell BK189.out 1).trans rfl, (blk_cell BK190.out 0).trans rfl, (blk_cell BK190.out 1).trans rfl⟩ (fun hHeld => ?_)
            clear hK K
            refine norm_ (a' := ?_) ?_ ?_
            rotate_left
            · show Act.put _ (some 21) _ = _
              simp only [Act.put, List.setIfInBounds_toArray, List.set_cons_zero, List.set_cons_succ, i64_w, i32_w]
              rfl
            refine one_ (i := 3) (N := some 23) #[true, true, true, true, false, false] rfl rfl (by kernel_rfl) (by decide) (fun K hK => ?_)
            refine goes_ Try.func14 (by kernel_rfl) rfl #[.agg #[.slice A1_0 l1_0.length c1_0, .slice A1_1 l1_1.length c1_1]] (by rfl) rfl rfl (by (try simp only [List.map_toArray, List.map_cons, List.map_nil]); first | done | rfl | (simp only [List.length_drop, List.length_take]; rfl)) ?_
            with_reducible refine (laws_toTable.calls k _ _ l1_0 _ _ l1_1 t199 t202 _ ?side1 ?side2 ?side3 ?side4 A20.out).mono ?_
            (case side1 => repeat (first | exact (Kd.C_below HR1_0.out HB.out) | (with_reducible refine Kd.C_alloc ?_ _) | (with_reducible refine Kd.C_drewN ?_ _) | (with_reducible refine Kd.C_drew ?_)))
            (case side2 => exact HC1_0.out)
            (case side3 => repeat (first | exact (Kd.C_below HR1_1.out HB.out) | (with_reducible refine Kd.C_alloc ?_ _) | (with_reducible refine Kd.C_drewN ?_ _) | (with_reducible refine Kd.C_drew ?_)))
            (case side4 => exact HC1_1.out)
            rintro e w41 ⟨v200, v203, rfl, ho0, ho1, hb⟩
            refine ⟨_, rfl, ?_⟩
            have n0_ := Aside0.mk (Kd.R_elder' (by (with_reducible repeat (first | apply Kd.R_alloc | apply Kd.R_drewN | apply Kd.R_drew)); exact HO195.out) (Kd.R_base ho0) hb)
            have n1_ := Aside0.mk (Kd.S_mono (Kd.S_told (Kd.S_told (Kd.S_old (by (with_reducible repeat (first | apply Kd.S_alloc | apply Kd.S_drewN | apply Kd.S_drew)); exact HO198.out) hb) (Kd.R_base ho0)) (Kd.S_base ho1)) (fun _ h_ => h_.1))
            have n2_ := Aside0.mk (Kd.R_lower (Kd.R_new' ho0 (Kd.R_lt (by (with_reducible repeat (first | apply Kd.R_alloc | apply Kd.R_drewN | apply Kd.R_drew)); exact HO195.out))) (below_size (by repeat (first | (with_reducible first | exact HB.out | apply below_alloc | apply pw_below_drewN | apply below_drew1 | refine below_set ?_ GE189.out | refine below_set ?_ GE190.out) | exact HB.out))))
            have n3_ := Aside0.mk (Kd.S_lower (Kd.S_new' (Kd.S_new' ho1 (Kd.R_lt (by (with_reducible repeat (first | apply Kd.R_alloc | apply Kd.R_drewN | apply Kd.R_drew)); exact HO195.out))) (Kd.S_lt (by (with_reducible repeat (first | apply Kd.S_alloc | apply Kd.S_drewN | apply Kd.S_drew)); exact HO198.out))) (below_size (by repeat (first | (with_reducible first | exact HB.out | apply below_alloc | apply pw_below_drewN | apply below_drew1 | refine below_set ?_ GE189.out | refine below_set ?_ GE190.out) | exact HB.out))))
            have n4_ := Aside0.mk (blk_below (g := gb189) (o := .cells #[.slice A0_0 l0_0.length c0_0, .slice A0_1 l0_1.length c0_1] 25 (0, 0)) (by (with_reducible repeat (first | refine blk_drewN ?_ _ | refine blk_drew ?_ | refine blk_alloc ?_ _)); exact BK189.out) hb)
            have n5_ := Aside0.mk (blk_below (g := gb190) (o := .cells #[.slice A1_0 l1_0.length c1_0, .slice A1_1 l1_1.length c1_1] 25 (0, 0)) (by (with_reducible repeat (first | refine blk_drewN ?_ _ | refine blk_drew ?_ | refine blk_alloc ?_ _)); exact BK190.out) hb)
            have n6_ := Aside0.mk (below_step (by repeat (first | (with_reducible first | exact HB.out | apply below_alloc | apply pw_below_drewN | apply below_drew1 | refine below_set ?_ GE189.out | refine below_set ?_ GE190.out) | exact HB.out)) hb)
            clear HO195
            clear HO198
            clear BK189
            clear BK190
            clear HB
            have HO195 := n0_
            have HO198 := n1_
            have HO201 := n2_
            have HO204 := n3_
            have BK189 := n4_
            have BK190 := n5_
            have HB := n6_
            clear n0_ n1_ n2_ n3_ n4_ n5_ n6_
            (try clear hb)
            (try clear hb2)
            (try clear hk)
            (try clear hi)
            (try clear ho0)
            (try clear ho1)
            obtain ⟨Ao42, co42, eo42⟩ := Kd.R_slice HO195.out
            (first | subst eo42 | (injection eo42 with f1_ f2_ f3_; have f4_ := f1_.symm; have f5_ := f3_.symm; clear f1_ f2_ f3_; subst f4_; subst f5_))
            obtain ⟨Ao43, co43, eo43⟩ := Kd.S_slice HO198.out
            (first | subst eo43 | (injection eo43 with f1_ f2_ f3_; have f4_ := f1_.symm; have f5_ := f3_.symm; clear f1_ f2_ f3_; subst f4_; subst f5_))
            obtain ⟨Ao44, co44, eo44⟩ := Kd.R_slice HO201.out
            (first | subst eo44 | (injection eo44 with f1_ f2_ f3_; have f4_ := f1_.symm; have f5_ := f3_.symm; clear f1_ f2_ f3_; subst f4_; subst f5_))
            obtain ⟨Ao45, co45, eo45⟩ := Kd.S_slice HO204.out
            (first | subst eo45 | (injection eo45 with f1_ f2_ f3_; have f4_ := f1_.symm; have f5_ := f3_.symm; clear f1_ f2_ f3_; subst f4_; subst f5_))
            refine hK.out _ _ ⟨(blk_cell BK189.out 0).trans rfl, (blk_cell BK189.out 1).trans rfl, (blk_cell BK190.out 0).trans rfl, (blk_cell BK190.out 1).trans rfl⟩ (fun hHeld => ?_)
            clear hK K
            refine norm_ (a' := ?_) ?_ ?_
            rotate_left
            · show Act.put _ (some 23) _ = _
              simp only [Act.put, List.setIfInBounds_toArray, List.set_cons_zero, List.set_cons_succ, i64_w, i32_w]
              rfl
            refine one_ (i := 4) (N := some 24) #[true, true, true, true, true, false] rfl rfl (by kernel_rfl) (by decide) (fun K hK => ?_)
            refine goes_ Try.func17 (by kernel_rfl) rfl #[.agg #[.slice Ao42 t193.length co42, .slice Ao43 t196.length co43], .agg #[.slice Ao44 t199.length co44, .slice Ao45 t202.length co45]] (by rfl) rfl rfl (by (try simp only [List.map_toArray, List.map_cons, List.map_nil]); first | done | rfl | (simp only [List.length_drop, List.length_take]; rfl)) ?_
            with_reducible refine (spec_SameTable.calls k _ _ t193 _ _ t196 _ _ t199 _ _ t202 t205 _ ?side1 ?side2 ?side3 ?side4 ?side5 ?side6 ?side7 ?side8 A21.out).mono ?_
            (case side1 => repeat (first | exact (Kd.R_reads' HO195.out).2.2 | (with_reducible refine Kd.C_alloc ?_ _) | (with_reducible refine Kd.C_drewN ?_ _) | (with_reducible refine Kd.C_drew ?_)))
            (case side2 => exact (Kd.R_reads' HO195.out).2.1)
            (case side3 => repeat (first | exact (Kd.S_reads' HO198.out).2.2 | (with_reducible refine Kd.C_alloc ?_ _) | (with_reducible refine Kd.C_drewN ?_ _) | (with_reducible refine Kd.C_drew ?_)))
            (case side4 => exact (Kd.S_reads' HO198.out).2.1)
            (case side5 => repeat (first | exact (Kd.R_reads' HO201.out).2.2 | (with_reducible refine Kd.C_alloc ?_ _) | (with_reducible refine Kd.C_drewN ?_ _) | (with_reducible refine Kd.C_drew ?_)))
            (case side6 => exact (Kd.R_reads' HO201.out).2.1)
            (case side7 => repeat (first | exact (Kd.S_reads' HO204.out).2.2 | (with_reducible refine Kd.C_alloc ?_ _) | (with_reducible refine Kd.C_drewN ?_ _) | (with_reducible refine Kd.C_drew ?_)))
            (case side8 => exact (Kd.S_reads' HO204.out).2.1)
            rintro e w46 ⟨rfl, hb⟩
            refine ⟨_, rfl, ?_⟩
            have n0_ := Aside0.mk (Kd.R_below (by (with_reducible repeat (first | apply Kd.R_alloc | apply Kd.R_drewN | apply Kd.R_drew)); exact HO195.out) hb)
            have n1_ := Aside0.mk (Kd.S_below (by (with_reducible repeat (first | apply Kd.S_alloc | apply Kd.S_drewN | apply Kd.S_drew)); exact HO198.out) hb)
            have n2_ := Aside0.mk (Kd.R_below (by (with_reducible repeat (first | apply Kd.R_alloc | apply Kd.R_drewN | apply Kd.R_drew)); exact HO201.out) hb)
            have n3_ := Aside0.mk (Kd.S_below (by (with_reducible repeat (first | apply Kd.S_alloc | apply Kd.S_drewN | apply Kd.S_drew)); exact HO204.out) hb)
            have n4_ := Aside0.mk (blk_below (g := gb189) (o := .cells #[.slice A0_0 l0_0.length c0_0, .slice A0_1 l0_1.length c0_1] 25 (0, 0)) (by (with_reducible repeat (first | refine blk_drewN ?_ _ | refine blk_drew ?_ | refine blk_alloc ?_ _)); exact BK189.out) hb)
            have n5_ := Aside0.mk (blk_below (g := gb190) (o := .cells #[.slice A1_0 l1_0.length c1_0, .slice A1_1 l1_1.length c1_1] 25 (0, 0)) (by (with_reducible repeat (first | refine blk_drewN ?_ _ | refine blk_drew ?_ | refine blk_alloc ?_ _)); exact BK190.out) hb)
            have n6_ := Aside0.mk (below_step (by repeat (first | (with_reducible first | exact HB.out | apply below_alloc | apply pw_below_drewN | apply below_drew1 | refine below_set ?_ GE189.out | refine below_set ?_ GE190.out) | exact HB.out)) hb)
            clear HO195
            clear HO198
            clear HO201
            clear HO204
            clear BK189
            clear BK190
            clear HB
            have HO195 := n0_
            have HO198 := n1_
            have HO201 := n2_
            have HO204 := n3_
            have BK189 := n4_
            have BK190 := n5_
            have HB := n6_
            clear n0_ n1_ n2_ n3_ n4_ n5_ n6_
            (try clear hb)
            (try clear hb2)
            (try clear hk)
            (try clear hi)
            refine hK.out _ _ ⟨(blk_cell BK189.out 0).trans rfl, (blk_cell BK189.out 1).trans rfl, (blk_cell BK190.out 0).trans rfl, (blk_cell BK190.out 1).trans rfl⟩ (fun hHeld => ?_)
            clear hK K
            refine norm_ (a' := ?_) ?_ ?_
            rotate_left
            · show Act.put _ (some 24) _ = _
              simp only [Act.put, List.setIfInBounds_toArray, List.set_cons_zero, List.set_cons_succ, i64_w, i32_w]
              rfl
            refine pure_ (i := 5) (N := some 6) (v := ?_) (a' := ?_) #[true, true, true, true, true, true] rfl rfl (by kernel_rfl) (fun _ _ _ h => h) (Or.inl ⟨by rfl, ?_⟩) ?_ ?_
            rotate_left
            · intro w'
              go_simp
              with_reducible rfl
            rotate_left
            · simp only [Act.put, List.setIfInBounds_toArray, List.set_cons_zero, List.set_cons_succ, i64_w, i32_w]
              rfl
            refine done_ (by kernel_rfl) ?_
            have hcz47_0 : w46.cell? ⟨gb189, 0, none⟩ = some (.slice A0_0 l0_0.length c0_0) := (blk_cell BK189.out 0).trans rfl
            have hcz47_1 : w46.cell? ⟨gb189, 1, none⟩ = some (.slice A0_1 l0_1.length c0_1) := (blk_cell BK189.out 1).trans rfl
            have hfz47_0 := blk_frozen BK189.out 0
            have hfz47_1 := blk_frozen BK189.out 1
            try go_wp2_with (first | ((with_reducible refine gate_callee (f := 14) rfl ?_); refine goesL_ (some 26) rfl rfl Try.func14 (by kernel_rfl) rfl #[.agg #[.slice A0_0 l0_0.length c0_0, .slice A0_1 l0_1.length c0_1]] rfl (by (try simp only [List.map_toArray, List.map_cons, List.map_nil]); first | done | rfl | (simp only [List.length_drop, List.length_take]; rfl)) ?_; (with_reducible refine (laws_toTable.calls k _ _ l0_0 _ _ l0_1 t206 t209 _ ?side1 ?side2 ?side3 ?side4 A22.out).mono ?_); (case side1 => repeat (first | exact (Kd.C_below HR0_0.out HB.out) | (with_reducible refine Kd.C_alloc ?_ _) | (with_reducible refine Kd.C_drewN ?_ _) | (with_reducible refine Kd.C_drew ?_))); (case side2 => exact HC0_0.out); (case side3 => repeat (first | exact (Kd.C_below HR0_1.out HB.out) | (with_reducible refine Kd.C_alloc ?_ _) | (with_reducible refine Kd.C_drewN ?_ _) | (with_reducible refine Kd.C_drew ?_))); (case side4 => exact HC0_1.out); rintro e w48 ⟨v207, v210, rfl, ho0, ho1, hb⟩; refine ⟨_, rfl, ?_⟩; have n0_ := Aside0.mk (Kd.R_elder' (by (with_reducible repeat (first | apply Kd.R_alloc | apply Kd.R_drewN | apply Kd.R_drew)); exact HO195.out) (Kd.R_base ho0) hb); have n1_ := Aside0.mk (Kd.S_mono (Kd.S_told (Kd.S_told (Kd.S_old (by (with_reducible repeat (first | apply Kd.S_alloc | apply Kd.S_drewN | apply Kd.S_drew)); exact HO198.out) hb) (Kd.R_base ho0)) (Kd.S_base ho1)) (fun _ h_ => h_.1)); have n2_ := Aside0.mk (Kd.R_elder' (by (with_reducible repeat (first | apply Kd.R_alloc | apply Kd.R_drewN | apply Kd.R_drew)); exact HO201.out) (Kd.R_base ho0) hb); have n3_ := Aside0.mk (Kd.S_mono (Kd.S_told (Kd.S_told (Kd.S_old (by (with_reducible repeat (first | apply Kd.S_alloc | apply Kd.S_drewN | apply Kd.S_drew)); exact HO204.out) hb) (Kd.R_base ho0)) (Kd.S_base ho1)) (fun _ h_ => h_.1)); have n4_ := Aside0.mk (Kd.R_lower (Kd.R_new' (Kd.R_new' ho0 (Kd.R_lt (by (with_reducible repeat (first | apply Kd.R_alloc | apply Kd.R_drewN | apply Kd.R_drew)); exact HO195.out))) (Kd.R_lt (by (with_reducible repeat (first | apply Kd.R_alloc | apply Kd.R_drewN | apply Kd.R_drew)); exact HO201.out))) (below_size (by repeat (first | (with_reducible first | exact HB.out | apply below_alloc | apply pw_below_drewN | apply below_drew1 | refine below_set ?_ GE189.out | refine below_set ?_ GE190.out) | exact HB.out)))); have n5_ := Aside0.mk (Kd.S_lower (Kd.S_new' (Kd.S_new' (Kd.S_new' (Kd.S_new' ho1 (Kd.R_lt (by (with_reducible repeat (first | apply Kd.R_alloc | apply Kd.R_drewN | apply Kd.R_drew)); exact HO195.out))) (Kd.S_lt (by (with_reducible repeat (first | apply Kd.S_alloc | apply Kd.S_drewN | apply Kd.S_drew)); exact HO198.out))) (Kd.R_lt (by (with_reducible repeat (first | apply Kd.R_alloc | apply Kd.R_drewN | apply Kd.R_drew)); exact HO201.out))) (Kd.S_lt (by (with_reducible repeat (first | apply Kd.S_alloc | apply Kd.S_drewN | apply Kd.S_drew)); exact HO204.out))) (below_size (by repeat (first | (with_reducible first | exact HB.out | apply below_alloc | apply pw_below_drewN | apply below_drew1 | refine below_set ?_ GE189.out | refine below_set ?_ GE190.out) | exact HB.out)))); have n6_ := Aside0.mk (blk_below (g := gb189) (o := .cells #[.slice A0_0 l0_0.length c0_0, .slice A0_1 l0_1.length c0_1] 25 (0, 0)) (by (with_reducible repeat (first | refine blk_drewN ?_ _ | refine blk_drew ?_ | refine blk_alloc ?_ _)); exact BK189.out) hb); have n7_ := Aside0.mk (blk_below (g := gb190) (o := .cells #[.slice A1_0 l1_0.length c1_0, .slice A1_1 l1_1.length c1_1] 25 (0, 0)) (by (with_reducible repeat (first | refine blk_drewN ?_ _ | refine blk_drew ?_ | refine blk_alloc ?_ _)); exact BK190.out) hb); have n8_ := Aside0.mk (below_step (by repeat (first | (with_reducible first | exact HB.out | apply below_alloc | apply pw_below_drewN | apply below_drew1 | refine below_set ?_ GE189.out | refine below_set ?_ GE190.out) | exact HB.out)) hb); clear HO195; clear HO198; clear HO201; clear HO204; clear BK189; clear BK190; clear HB; have HO195 := n0_; have HO198 := n1_; have HO201 := n2_; have HO204 := n3_; have HO208 := n4_; have HO211 := n5_; have BK189 := n6_; have BK190 := n7_; have HB := n8_; clear n0_ n1_ n2_ n3_ n4_ n5_ n6_ n7_ n8_; (try clear hb); (try clear hb2); (try clear hk); (try clear hi); (try clear ho0); (try clear ho1)) | ((with_reducible refine gate_dst (N := 7) rfl ?_); refine box_event ?hg (N := 7) ?hd (cs := #[.slice none 0 0, .slice none 0 0]) (t := 28) ?hr ?_; (case hd => rfl); (case hg => rfl); (case hr => first | (go_simp; done) | (go_simp; rfl)); intro gb212 hg w49 hbox hb; have n0_ := Aside0.mk (Kd.R_below (by (with_reducible repeat (first | apply Kd.R_alloc | apply Kd.R_drewN | apply Kd.R_drew)); exact HO195.out) hb); have n1_ := Aside0.mk (Kd.S_below (by (with_reducible repeat (first | apply Kd.S_alloc | apply Kd.S_drewN | apply Kd.S_drew)); exact HO198.out) hb); have n2_ := Aside0.mk (Kd.R_below (by (with_reducible repeat (first | apply Kd.R_alloc | apply Kd.R_drewN | apply Kd.R_drew)); exact HO201.out) hb); have n3_ := Aside0.mk (Kd.S_below (by (with_reducible repeat (first | apply Kd.S_alloc | apply Kd.S_drewN | apply Kd.S_drew)); exact HO204.out) hb); have n4_ := Aside0.mk (Kd.R_below (by (with_reducible repeat (first | apply Kd.R_alloc | apply Kd.R_drewN | apply Kd.R_drew)); exact HO208.out) hb); have n5_ := Aside0.mk (Kd.S_below (by (with_reducible repeat (first | apply Kd.S_alloc | apply Kd.S_drewN | apply Kd.S_drew)); exact HO211.out) hb); have n6_ := Aside0.mk (blk_below (g := gb189) (o := .cells #[.slice A0_0 l0_0.length c0_0, .slice A0_1 l0_1.length c0_1] 25 (0, 0)) (by (with_reducible repeat (first | refine blk_drewN ?_ _ | refine blk_drew ?_ | refine blk_alloc ?_ _)); exact BK189.out) hb); have n7_ := Aside0.mk (blk_below (g := gb190) (o := .cells #[.slice A1_0 l1_0.length c1_0, .slice A1_1 l1_1.length c1_1] 25 (0, 0)) (by (with_reducible repeat (first | refine blk_drewN ?_ _ | refine blk_drew ?_ | refine blk_alloc ?_ _)); exact BK190.out) hb); have n8_ := Aside0.mk (below_step (by repeat (first | (with_reducible first | exact HB.out | apply below_alloc | apply pw_below_drewN | apply below_drew1 | refine below_set ?_ GE189.out | refine below_set ?_ GE190.out) | exact HB.out)) hb); have n9_ := Aside0.mk (hbox); have n10_ := Aside0.mk ((by rw [hg]; exact (below_size (by repeat (first | (with_reducible first | exact HB.out | apply below_alloc | apply pw_below_drewN | apply below_drew1 | refine below_set ?_ GE189.out | refine below_set ?_ GE190.out) | exact HB.out))) : w.heap.size ≤ gb212)); have n11_ := Aside0.mk ((by rw [hg]; exact (below_size (by repeat (first | (with_reducible first | exact HB.out | apply below_alloc | apply pw_below_drewN | apply below_drew1 | refine below_set ?_ GE189.out | refine below_set ?_ GE190.out) | exact HB.out))) : w.heap.size ≤ gb212)); have n12_ := Aside0.mk ((by rw [hg]; exact Nat.ne_of_lt (blk_lt (g := gb189) (o := .cells #[.slice A0_0 l0_0.length c0_0, .slice A0_1 l0_1.length c0_1] 25 (0, 0)) (by (with_reducible repeat (first | refine blk_drewN ?_ _ | refine blk_drew ?_ | refine blk_alloc ?_ _)); exact BK189.out)) : gb189 ≠ gb212)); have n13_ := Aside0.mk ((by rw [hg]; exact Nat.ne_of_gt (blk_lt (g := gb189) (o := .cells #[.slice A0_0 l0_0.length c0_0, .slice A0_1 l0_1.length c0_1] 25 (0, 0)) (by (with_reducible repeat (first | refine blk_drewN ?_ _ | refine blk_drew ?_ | refine blk_alloc ?_ _)); exact BK189.out)) : gb212 ≠ gb189)); have n14_ := Aside0.mk ((by rw [hg]; exact Nat.ne_of_lt (blk_lt (g := gb190) (o := .cells #[.slice A1_0 l1_0.length c1_0, .slice A1_1 l1_1.length c1_1] 25 (0, 0)) (by (with_reducible repeat (first | refine blk_drewN ?_ _ | refine blk_drew ?_ | refine blk_alloc ?_ _)); exact BK190.out)) : gb190 ≠ gb212)); have n15_ := Aside0.mk ((by rw [hg]; exact Nat.ne_of_gt (blk_lt (g := gb190) (o := .cells #[.slice A1_0 l1_0.length c1_0, .slice A1_1 l1_1.length c1_1] 25 (0, 0)) (by (with_reducible repeat (first | refine blk_drewN ?_ _ | refine blk_drew ?_ | refine blk_alloc ?_ _)); exact BK190.out)) : gb212 ≠ gb190)); clear HO195; clear HO198; clear HO201; clear HO204; clear HO208; clear HO211; clear BK189; clear BK190; clear HB; have HO195 := n0_; have HO198 := n1_; have HO201 := n2_; have HO204 := n3_; have HO208 := n4_; have HO211 := n5_; have BK189 := n6_; have BK190 := n7_; have HB := n8_; have BK212 := n9_; have GW212 := n10_; have GE212 := n11_; have NB189_212 := n12_; have NB212_189 := n13_; have NB190_212 := n14_; have NB212_190 := n15_; clear n0_ n1_ n2_ n3_ n4_ n5_ n6_ n7_ n8_ n9_ n10_ n11_ n12_ n13_ n14_ n15_; clear hb hbox hg; obtain ⟨Ao50, co50, eo50⟩ := Kd.R_slice HO208.out; subst eo50; have hnb51 := NB212_189.out; have hnc51 := NB189_212.out; have hnb52 := NB212_190.out; have hnc52 := NB190_212.out; have hcz53_0 : w49.cell? ⟨gb212, 0, none⟩ = some (.slice none 0 0) := (blk_cell BK212.out 0).trans rfl; have hcz53_1 : w49.cell? ⟨gb212, 1, none⟩ = some (.slice none 0 0) := (blk_cell BK212.out 1).trans rfl; have hfz53_0 := blk_frozen BK212.out 0; have hfz53_1 := blk_frozen BK212.out 1; obtain ⟨Ao54, co54, eo54⟩ := Kd.S_slice HO211.out; subst eo54; have hcz55_0 : w49.cell? ⟨gb190, 0, none⟩ = some (.slice A1_0 l1_0.length c1_0) := (blk_cell BK190.out 0).trans rfl; have hcz55_1 : w49.cell? ⟨gb190, 1, none⟩ = some (.slice A1_1 l1_1.length c1_1) := (blk_cell BK190.out 1).trans rfl; have hfz55_0 := blk_frozen BK190.out 0; have hfz55_1 := blk_frozen BK190.out 1) | ((with_reducible refine gate_callee (f := 14) rfl ?_); refine goesL_ (some 28) rfl rfl Try.func14 (by kernel_rfl) rfl #[.agg #[.slice A1_0 l1_0.length c1_0, .slice A1_1 l1_1.length c1_1]] rfl (by (try simp only [List.map_toArray, List.map_cons, List.map_nil]); first | done | rfl | (simp only [List.length_drop, List.length_take]; rfl)) ?_; (with_reducible refine (laws_toTable.calls k _ _ l1_0 _ _ l1_1 t213 t216 _ ?side1 ?side2 ?side3 ?side4 A23.out).mono ?_); (case side1 => exact Kd.C_below HR1_0.out (by repeat (first | (with_reducible first | exact HB.out | apply below_alloc | apply pw_below_drewN | apply below_drew1 | refine below_set ?_ GE189.out | refine below_set ?_ GE190.out | refine below_set ?_ GE212.out) | exact HB.out))); (case side2 => exact HC1_0.out); (case side3 => exact Kd.C_below HR1_1.out (by repeat (first | (with_reducible first | exact HB.out | apply below_alloc | apply pw_below_drewN | apply below_drew1 | refine below_set ?_ GE189.out | refine below_set ?_ GE190.out | refine below_set ?_ GE212.out) | exact HB.out))); (case side4 => exact HC1_1.out); rintro e w56 ⟨v214, v217, rfl, ho0, ho1, hb⟩; refine ⟨_, rfl, ?_⟩; have n0_ := Aside0.mk (Kd.R_elder' (by (with_reducible repeat (first | apply Kd.R_alloc | apply Kd.R_drewN | apply Kd.R_drew)); exact (Kd.R_mono (Kd.R_far (p := ⟨gb212, 1, none⟩) (Kd.R_far (p := ⟨gb212, 0, none⟩) (Kd.R_types HO195.out BK212.out (by decide)) (fun _ hk => hk.2) (.slice Ao50 t206.length co50)) (fun _ hk => hk.2) (.slice Ao54 t209.length co54)) (fun _ h_ => h_.1))) (Kd.R_base ho0) hb); have n1_ := Aside0.mk (Kd.S_mono (Kd.S_told (Kd.S_told (Kd.S_old (by (with_reducible repeat (first | apply Kd.S_alloc | apply Kd.S_drewN | apply Kd.S_drew)); exact (Kd.S_mono (Kd.S_far (p := ⟨gb212, 1, none⟩) (Kd.S_far (p := ⟨gb212, 0, none⟩) (Kd.S_types HO198.out BK212.out (by decide)) (fun _ hk => hk.2) (.slice Ao50 t206.length co50)) (fun _ hk => hk.2) (.slice Ao54 t209.length co54)) (fun _ h_ => h_.1))) hb) (Kd.R_base ho0)) (Kd.S_base ho1)) (fun _ h_ => h_.1)); have n2_ := Aside0.mk (Kd.R_elder' (by (with_reducible repeat (first | apply Kd.R_alloc | apply Kd.R_drewN | apply Kd.R_drew)); exact (Kd.R_mono (Kd.R_far (p := ⟨gb212, 1, none⟩) (Kd.R_far (p := ⟨gb212, 0, none⟩) (Kd.R_types HO201.out BK212.out (by decide)) (fun _ hk => hk.2) (.slice Ao50 t206.length co50)) (fun _ hk => hk.2) (.slice Ao54 t209.length co54)) (fun _ h_ => h_.1))) (Kd.R_base ho0) hb); have n3_ := Aside0.mk (Kd.S_mono (Kd.S_told (Kd.S_told (Kd.S_old (by (with_reducible repeat (first | apply Kd.S_alloc | apply Kd.S_drewN | apply Kd.S_drew)); exact (Kd.S_mono (Kd.S_far (p := ⟨gb212, 1, none⟩) (Kd.S_far (p := ⟨gb212, 0, none⟩) (Kd.S_types HO204.out BK212.out (by decide)) (fun _ hk => hk.2) (.slice Ao50 t206.length co50)) (fun _ hk => hk.2) (.slice Ao54 t209.length co54)) (fun _ h_ => h_.1))) hb) (Kd.R_base ho0)) (Kd.S_base ho1)) (fun _ h_ => h_.1)); have n4_ := Aside0.mk (Kd.R_elder' (by (with_reducible repeat (first | apply Kd.R_alloc | apply Kd.R_drewN | apply Kd.R_drew)); exact (Kd.R_mono (Kd.R_far (p := ⟨gb212, 1, none⟩) (Kd.R_far (p := ⟨gb212, 0, none⟩) (Kd.R_types HO208.out BK212.out (by decide)) (fun _ hk => hk.2) (.slice Ao50 t206.length co50)) (fun _ hk => hk.2) (.slice Ao54 t209.length co54)) (fun _ h_ => h_.1))) (Kd.R_base ho0) hb); have n5_ := Aside0.mk (Kd.S_mono (Kd.S_told (Kd.S_told (Kd.S_old (by (with_reducible repeat (first | apply Kd.S_alloc | apply Kd.S_drewN | apply Kd.S_drew)); exact (Kd.S_mono (Kd.S_far (p := ⟨gb212, 1, none⟩) (Kd.S_far (p := ⟨gb212, 0, none⟩) (Kd.S_types HO211.out BK212.out (by decide)) (fun _ hk => hk.2) (.slice Ao50 t206.length co50)) (fun _ hk => hk.2) (.slice Ao54 t209.length co54)) (fun _ h_ => h_.1))) hb) (Kd.R_base ho0)) (Kd.S_base ho1)) (fun _ h_ => h_.1)); have n6_ := Aside0.mk (Kd.R_lower (Kd.R_new' (Kd.R_new' (Kd.R_new' ho0 (Kd.R_lt (by (with_reducible repeat (first | apply Kd.R_alloc | apply Kd.R_drewN | apply Kd.R_drew)); exact (Kd.R_mono (Kd.R_far (p := ⟨gb212, 1, none⟩) (Kd.R_far (p := ⟨gb212, 0, none⟩) (Kd.R_types HO195.out BK212.out (by decide)) (fun _ hk => hk.2) (.slice Ao50 t206.length co50)) (fun _ hk => hk.2) (.slice Ao54 t209.length co54)) (fun _ h_ => h_.1))))) (Kd.R_lt (by (with_reducible repeat (first | apply Kd.R_alloc | apply Kd.R_drewN | apply Kd.R_drew)); exact (Kd.R_mono (Kd.R_far (p := ⟨gb212, 1, none⟩) (Kd.R_far (p := ⟨gb212, 0, none⟩) (Kd.R_types HO201.out BK212.out (by decide)) (fun _ hk => hk.2) (.slice Ao50 t206.length co50)) (fun _ hk => hk.2) (.slice Ao54 t209.length co54)) (fun _ h_ => h_.1))))) (Kd.R_lt (by (with_reducible repeat (first | apply Kd.R_alloc | apply Kd.R_drewN | apply Kd.R_drew)); exact (Kd.R_mono (Kd.R_far (p := ⟨gb212, 1, none⟩) (Kd.R_far (p := ⟨gb212, 0, none⟩) (Kd.R_types HO208.out BK212.out (by decide)) (fun _ hk => hk.2) (.slice Ao50 t206.length co50)) (fun _ hk => hk.2) (.slice Ao54 t209.length co54)) (fun _ h_ => h_.1))))) (below_size (by repeat (first | (with_reducible first | exact HB.out | apply below_alloc | apply pw_below_drewN | apply below_drew1 | refine below_set ?_ GE189.out | refine below_set ?_ GE190.out | refine below_set ?_ GE212.out) | exact HB.out)))); have n7_ := Aside0.mk (Kd.S_lower (Kd.S_new' (Kd.S_new' (Kd.S_new' (Kd.S_new' (Kd.S_new' (Kd.S_new' ho1 (Kd.R_lt (by (with_reducible repeat (first | apply Kd.R_alloc | apply Kd.R_drewN | apply Kd.R_drew)); exact (Kd.R_mono (Kd.R_far (p := ⟨gb212, 1, none⟩) (Kd.R_far (p := ⟨gb212, 0, none⟩) (Kd.R_types HO195.out BK212.out (by decide)) (fun _ hk => hk.2) (.slice Ao50 t206.length co50)) (fun _ hk => hk.2) (.slice Ao54 t209.length co54)) (fun _ h_ => h_.1))))) (Kd.S_lt (by (with_reducible repeat (first | apply Kd.S_alloc | apply Kd.S_drewN | apply Kd.S_drew)); exact (Kd.S_mono (Kd.S_far (p := ⟨gb212, 1, none⟩) (Kd.S_far (p := ⟨gb212, 0, none⟩) (Kd.S_types HO198.out BK212.out (by decide)) (fun _ hk => hk.2) (.slice Ao50 t206.length co50)) (fun _ hk => hk.2) (.slice Ao54 t209.length co54)) (fun _ h_ => h_.1))))) (Kd.R_lt (by (with_reducible repeat (first | apply Kd.R_alloc | apply Kd.R_drewN | apply Kd.R_drew)); exact (Kd.R_mono (Kd.R_far (p := ⟨gb212, 1, none⟩) (Kd.R_far (p := ⟨gb212, 0, none⟩) (Kd.R_types HO201.out BK212.out (by decide)) (fun _ hk => hk.2) (.slice Ao50 t206.length co50)) (fun _ hk => hk.2) (.slice Ao54 t209.length co54)) (fun _ h_ => h_.1))))) (Kd.S_lt (by (with_reducible repeat (first | apply Kd.S_alloc | apply Kd.S_drewN | apply Kd.S_drew)); exact (Kd.S_mono (Kd.S_far (p := ⟨gb212, 1, none⟩) (Kd.S_far (p := ⟨gb212, 0, none⟩) (Kd.S_types HO204.out BK212.out (by decide)) (fun _ hk => hk.2) (.slice Ao50 t206.length co50)) (fun _ hk => hk.2) (.slice Ao54 t209.length co54)) (fun _ h_ => h_.1))))) (Kd.R_lt (by (with_reducible repeat (first | apply Kd.R_alloc | apply Kd.R_drewN | apply Kd.R_drew)); exact (Kd.R_mono (Kd.R_far (p := ⟨gb212, 1, none⟩) (Kd.R_far (p := ⟨gb212, 0, none⟩) (Kd.R_types HO208.out BK212.out (by decide)) (fun _ hk => hk.2) (.slice Ao50 t206.length co50)) (fun _ hk => hk.2) (.slice Ao54 t209.length co54)) (fun _ h_ => h_.1))))) (Kd.S_lt (by (with_reducible repeat (first | apply Kd.S_alloc | apply Kd.S_drewN | apply Kd.S_drew)); exact (Kd.S_mono (Kd.S_far (p := ⟨gb212, 1, none⟩) (Kd.S_far (p := ⟨gb212, 0, none⟩) (Kd.S_types HO211.out BK212.out (by decide)) (fun _ hk => hk.2) (.slice Ao50 t206.length co50)) (fun _ hk => hk.2) (.slice Ao54 t209.length co54)) (fun _ h_ => h_.1))))) (below_size (by repeat (first | (with_reducible first | exact HB.out | apply below_alloc | apply pw_below_drewN | apply below_drew1 | refine below_set ?_ GE189.out | refine below_set ?_ GE190.out | refine below_set ?_ GE212.out) | exact HB.out)))); have n8_ := Aside0.mk (blk_below (g := gb189) (o := .cells #[.slice A0_0 l0_0.length c0_0, .slice A0_1 l0_1.length c0_1] 25 (0, 0)) (by (with_reducible repeat (first | refine blk_drewN ?_ _ | refine blk_drew ?_ | refine blk_alloc ?_ _)); refine blk_far ?_ NB189_212.out _; (with_reducible repeat (first | refine blk_drewN ?_ _ | refine blk_drew ?_ | refine blk_alloc ?_ _)); refine blk_far ?_ NB189_212.out _; (with_reducible repeat (first | refine blk_drewN ?_ _ | refine blk_drew ?_ | refine blk_alloc ?_ _)); exact BK189.out) hb); have n9_ := Aside0.mk (blk_below (g := gb190) (o := .cells #[.slice A1_0 l1_0.length c1_0, .slice A1_1 l1_1.length c1_1] 25 (0, 0)) (by (with_reducible repeat (first | refine blk_drewN ?_ _ | refine blk_drew ?_ | refine blk_alloc ?_ _)); refine blk_far ?_ NB190_212.out _; (with_reducible repeat (first | refine blk_drewN ?_ _ | refine blk_drew ?_ | refine blk_alloc ?_ _)); refine blk_far ?_ NB190_212.out _; (with_reducible repeat (first | refine blk_drewN ?_ _ | refine blk_drew ?_ | refine blk_alloc ?_ _)); exact BK190.out) hb); have n10_ := Aside0.mk (blk_below (g := gb212) (o := .cells #[.slice Ao50 t206.length co50, .slice Ao54 t209.length co54] 28 (0, 0)) (by (with_reducible repeat (first | refine blk_drewN ?_ _ | refine blk_drew ?_ | refine blk_alloc ?_ _)); refine blk_put (cs := #[.slice Ao50 t206.length co50, .slice none 0 0]) ?_ 1 _ rfl; (with_reducible repeat (first | refine blk_drewN ?_ _ | refine blk_drew ?_ | refine blk_alloc ?_ _)); refine blk_put (cs := #[.slice none 0 0, .slice none 0 0]) ?_ 0 _ rfl; (with_reducible repeat (first | refine blk_drewN ?_ _ | refine blk_drew ?_ | refine blk_alloc ?_ _)); exact BK212.out) hb); have n11_ := Aside0.mk (below_step (by repeat (first | (with_reducible first | exact HB.out | apply below_alloc | apply pw_below_drewN | apply below_drew1 | refine below_set ?_ GE189.out | refine below_set ?_ GE190.out | refine below_set ?_ GE212.out) | exact HB.out)) hb); clear HO195; clear HO198; clear HO201; clear HO204; clear HO208; clear HO211; clear BK189; clear BK190; clear BK212; clear HB; have HO195 := n0_; have HO198 := n1_; have HO201 := n2_; have HO204 := n3_; have HO208 := n4_; have HO211 := n5_; have HO215 := n6_; have HO218 := n7_; have BK189 := n8_; have BK190 := n9_; have BK212 := n10_; have HB := n11_; clear n0_ n1_ n2_ n3_ n4_ n5_ n6_ n7_ n8_ n9_ n10_ n11_; (try clear hb); (try clear hb2); (try clear hk); (try clear hi); (try clear ho0); (try clear ho1)) | ((with_reducible refine gate_dst (N := 8) rfl ?_); refine box_event ?hg (N := 8) ?hd (cs := #[.slice none 0 0, .slice none 0 0]) (t := 28) ?hr ?_; (case hd => rfl); (case hg => rfl); (case hr => first | (go_simp; done) | (go_simp; rfl)); intro gb219 hg w57 hbox hb; have n0_ := Aside0.mk (Kd.R_below (by (with_reducible repeat (first | apply Kd.R_alloc | apply Kd.R_drewN | apply Kd.R_drew)); exact HO195.out) hb); have n1_ := Aside0.mk (Kd.S_below (by (with_reducible repeat (first | apply Kd.S_alloc | apply Kd.S_drewN | apply Kd.S_drew)); exact HO198.out) hb); have n2_ := Aside0.mk (Kd.R_below (by (with_reducible repeat (first | apply Kd.R_alloc | apply Kd.R_drewN | apply Kd.R_drew)); exact HO201.out) hb); have n3_ := Aside0.mk (Kd.S_below (by (with_reducible repeat (first | apply Kd.S_alloc | apply Kd.S_drewN | apply Kd.S_drew)); exact HO204.out) hb); have n4_ := Aside0.mk (Kd.R_below (by (with_reducible repeat (first | apply Kd.R_alloc | apply Kd.R_drewN | apply Kd.R_drew)); exact HO208.out) hb); have n5_ := Aside0.mk (Kd.S_below (by (with_reducible repeat (first | apply Kd.S_alloc | apply Kd.S_drewN | apply Kd.S_drew)); exact HO211.out) hb); have n6_ := Aside0.mk (Kd.R_below (by (with_reducible repeat (first | apply Kd.R_alloc | apply Kd.R_drewN | apply Kd.R_drew)); exact HO215.out) hb); have n7_ := Aside0.mk (Kd.S_below (by (with_reducible repeat (first | apply Kd.S_alloc | apply Kd.S_drewN | apply Kd.S_drew)); exact HO218.out) hb); have n8_ := Aside0.mk (blk_below (g := gb189) (o := .cells #[.slice A0_0 l0_0.length c0_0, .slice A0_1 l0_1.length c0_1] 25 (0, 0)) (by (with_reducible repeat (first | refine blk_drewN ?_ _ | refine blk_drew ?_ | refine blk_alloc ?_ _)); exact BK189.out) hb); have n9_ := Aside0.mk (blk_below (g := gb190) (o := .cells #[.slice A1_0 l1_0.length c1_0, .slice A1_1 l1_1.length c1_1] 25 (0, 0)) (by (with_reducible repeat (first | refine blk_drewN ?_ _ | refine blk_drew ?_ | refine blk_alloc ?_ _)); exact BK190.out) hb); have n10_ := Aside0.mk (blk_below (g := gb212) (o := .cells #[.slice Ao50 t206.length co50, .slice Ao54 t209.length co54] 28 (0, 0)) (by (with_reducible repeat (first | refine blk_drewN ?_ _ | refine blk_drew ?_ | refine blk_alloc ?_ _)); exact BK212.out) hb); have n11_ := Aside0.mk (below_step (by repeat (first | (with_reducible first | exact HB.out | apply below_alloc | apply pw_below_drewN | apply below_drew1 | refine below_set ?_ GE189.out | refine below_set ?_ GE190.out | refine below_set ?_ GE212.out) | exact HB.out)) hb); have n12_ := Aside0.mk (hbox); have n13_ := Aside0.mk ((by rw [hg]; exact (below_size (by repeat (first | (with_reducible first | exact HB.out | apply below_alloc | apply pw_below_drewN | apply below_drew1 | refine below_set ?_ GE189.out | refine below_set ?_ GE190.out | refine below_set ?_ GE212.out) | exact HB.out))) : w.heap.size ≤ gb219)); have n14_ := Aside0.mk ((by rw [hg]; exact (below_size (by repeat (first | (with_reducible first | exact HB.out | apply below_alloc | apply pw_below_drewN | apply below_drew1 | refine below_set ?_ GE189.out | refine below_set ?_ GE190.out | refine below_set ?_ GE212.out) | exact HB.out))) : w.heap.size ≤ gb219)); have n15_ := Aside0.mk ((by rw [hg]; exact Nat.ne_of_lt (blk_lt (g := gb189) (o := .cells #[.slice A0_0 l0_0.length c0_0, .slice A0_1 l0_1.length c0_1] 25 (0, 0)) (by (with_reducible repeat (first | refine blk_drewN ?_ _ | refine blk_drew ?_ | refine blk_alloc ?_ _)); exact BK189.out)) : gb189 ≠ gb219)); have n16_ := Aside0.mk ((by rw [hg]; exact Nat.ne_of_gt (blk_lt (g := gb189) (o := .cells #[.slice A0_0 l0_0.length c0_0, .slice A0_1 l0_1.length c0_1] 25 (0, 0)) (by (with_reducible repeat (first | refine blk_drewN ?_ _ | refine blk_drew ?_ | refine blk_alloc ?_ _)); exact BK189.out)) : gb219 ≠ gb189)); have n17_ := Aside0.mk ((by rw [hg]; exact Nat.ne_of_lt (blk_lt (g := gb190) (o := .cells #[.slice A1_0 l1_0.length c1_0, .slice A1_1 l1_1.length c1_1] 25 (0, 0)) (by (with_reducible repeat (first | refine blk_drewN ?_ _ | refine blk_drew ?_ | refine blk_alloc ?_ _)); exact BK190.out)) : gb190 ≠ gb219)); have n18_ := Aside0.mk ((by rw [hg]; exact Nat.ne_of_gt (blk_lt (g := gb190) (o := .cells #[.slice A1_0 l1_0.length c1_0, .slice A1_1 l1_1.length c1_1] 25 (0, 0)) (by (with_reducible repeat (first | refine blk_drewN ?_ _ | refine blk_drew ?_ | refine blk_alloc ?_ _)); exact BK190.out)) : gb219 ≠ gb190)); have n19_ := Aside0.mk ((by rw [hg]; exact Nat.ne_of_lt (blk_lt (g := gb212) (o := .cells #[.slice Ao50 t206.length co50, .slice Ao54 t209.length co54] 28 (0, 0)) (by (with_reducible repeat (first | refine blk_drewN ?_ _ | refine blk_drew ?_ | refine blk_alloc ?_ _)); exact BK212.out)) : gb212 ≠ gb219)); have n20_ := Aside0.mk ((by rw [hg]; exact Nat.ne_of_gt (blk_lt (g := gb212) (o := .cells #[.slice Ao50 t206.length co50, .slice Ao54 t209.length co54] 28 (0, 0)) (by (with_reducible repeat (first | refine blk_drewN ?_ _ | refine blk_drew ?_ | refine blk_alloc ?_ _)); exact BK212.out)) : gb219 ≠ gb212)); clear HO195; clear HO198; clear HO201; clear HO204; clear HO208; clear HO211; clear HO215; clear HO218; clear BK189; clear BK190; clear BK212; clear HB; have HO195 := n0_; have HO198 := n1_; have HO201 := n2_; have HO204 := n3_; have HO208 := n4_; have HO211 := n5_; have HO215 := n6_; have HO218 := n7_; have BK189 := n8_; have BK190 := n9_; have BK212 := n10_; have HB := n11_; have BK219 := n12_; have GW219 := n13_; have GE219 := n14_; have NB189_219 := n15_; have NB219_189 := n16_; have NB190_219 := n17_; have NB219_190 := n18_; have NB212_219 := n19_; have NB219_212 := n20_; clear n0_ n1_ n2_ n3_ n4_ n5_ n6_ n7_ n8_ n9_ n10_ n11_ n12_ n13_ n14_ n15_ n16_ n17_ n18_ n19_ n20_; clear hb hbox hg; obtain ⟨Ao58, co58, eo58⟩ := Kd.R_slice HO215.out; subst eo58; have hnb59 := NB219_189.out; have hnc59 := NB189_219.out; have hnb60 := NB219_190.out; have hnc60 := NB190_219.out; have hnb61 := NB219_212.out; have hnc61 := NB212_219.out; have hcz62_0 : w57.cell? ⟨gb219, 0, none⟩ = some (.slice none 0 0) := (blk_cell BK219.out 0).trans rfl; have hcz62_1 : w57.cell? ⟨gb219, 1, none⟩ = some (.slice none 0 0) := (blk_cell BK219.out 1).trans rfl; have hfz62_0 := blk_frozen BK219.out 0; have hfz62_1 := blk_frozen BK219.out 1; obtain ⟨Ao63, co63, eo63⟩ := Kd.S_slice HO218.out; subst eo63; have hcz64_0 : w57.cell? ⟨gb212, 0, none⟩ = some (.slice Ao50 t206.length co50) := (blk_cell BK212.out 0).trans rfl; have hcz64_1 : w57.cell? ⟨gb212, 1, none⟩ = some (.slice Ao54 t209.length co54) := (blk_cell BK212.out 1).trans rfl; have hfz64_0 := blk_frozen BK212.out 0; have hfz64_1 := blk_frozen BK212.out 1) | ((with_reducible refine gate_callee (f := 18) rfl ?_); refine goesL_ (some 31) rfl rfl Try.func18 (by kernel_rfl) rfl #[.agg #[.slice Ao50 t206.length co50, .slice Ao54 t209.length co54], .agg #[.slice Ao58 t213.length co58, .slice Ao63 t216.length co63]] rfl (by (try simp only [List.map_toArray, List.map_cons, List.map_nil]); first | done | rfl | (simp only [List.length_drop, List.length_take]; rfl)) ?_; (with_reducible refine (impl_SameTable.calls k _ _ t206 _ _ t209 _ _ t213 _ _ t216 t220 _ ?side1 ?side2 ?side3 ?side4 ?side5 ?side6 ?side7 ?side8 A24.out).mono ?_); (case side1 => refine (Kd.R_reads' (e := 57) (base := w.heap.size) (ok := fun k_ => (((True ∧ some k_ ≠ (.slice Ao42 t193.length co42 : Value).ownBlock) ∧ some k_ ≠ (.slice Ao44 t199.length co44 : Value).ownBlock) ∧ some k_ ≠ (.slice Ao58 t213.length co58 : Value).ownBlock)) (n := t206.length) (c := co50) ?_).2.2; exact (by (with_reducible repeat (first | apply Kd.R_alloc | apply Kd.R_drewN | apply Kd.R_drew)); exact (Kd.R_mono (Kd.R_far (p := ⟨gb219, 1, none⟩) (Kd.R_far (p := ⟨gb219, 0, none⟩) (Kd.R_types HO208.out BK219.out (by decide)) (fun _ hk => hk.2) (.slice Ao58 t213.length co58)) (fun _ hk => hk.2) (.slice Ao63 t216.length co63)) (fun _ h_ => h_.1)))); (case side2 => exact (Kd.R_reads' HO208.out).2.1); (case side3 => refine (Kd.S_reads' (e := 22) (base := w.heap.size) (ok := fun k_ => ((((((some k_ ≠ (.slice Ao50 t206.length co50 : Value).ownBlock ∧ some k_ ≠ (.slice Ao42 t193.length co42 : Value).ownBlock) ∧ some k_ ≠ (.slice Ao43 t196.length co43 : Value).ownBlock) ∧ some k_ ≠ (.slice Ao44 t199.length co44 : Value).ownBlock) ∧ some k_ ≠ (.slice Ao45 t202.length co45 : Value).ownBlock) ∧ some k_ ≠ (.slice Ao58 t213.length co58 : Value).ownBlock) ∧ some k_ ≠ (.slice Ao63 t216.length co63 : Value).ownBlock)) (n := t209.length) (c := co54) ?_).2.2; exact (by (with_reducible repeat (first | apply Kd.S_alloc | apply Kd.S_drewN | apply Kd.S_drew)); exact (Kd.S_mono (Kd.S_far (p := ⟨gb219, 1, none⟩) (Kd.S_far (p := ⟨gb219, 0, none⟩) (Kd.S_types HO211.out BK219.out (by decide)) (fun _ hk => hk.2) (.slice Ao58 t213.length co58)) (fun _ hk => hk.2) (.slice Ao63 t216.length co63)) (fun _ h_ => h_.1)))); (case side4 => exact (Kd.S_reads' HO211.out).2.1); (case side5 => refine (Kd.R_reads' (e := 57) (base := w.heap.size) (ok := fun k_ => (((True ∧ some k_ ≠ (.slice Ao42 t193.length co42 : Value).ownBlock) ∧ some k_ ≠ (.slice Ao44 t199.length co44 : Value).ownBlock) ∧ some k_ ≠ (.slice Ao50 t206.length co50 : Value).ownBlock)) (n := t213.length) (c := co58) ?_).2.2; exact (by (with_reducible repeat (first | apply Kd.R_alloc | apply Kd.R_drewN | apply Kd.R_drew)); exact (Kd.R_mono (Kd.R_far (p := ⟨gb219, 1, none⟩) (Kd.R_far (p := ⟨gb219, 0, none⟩) (Kd.R_types HO215.out BK219.out (by decide)) (fun _ hk => hk.2) (.slice Ao58 t213.length co58)) (fun _ hk => hk.2) (.slice Ao63 t216.length co63)) (fun _ h_ => h_.1)))); (case side6 => exact (Kd.R_reads' HO215.out).2.1); (case side7 => refine (Kd.S_reads' (e := 22) (base := w.heap.size) (ok := fun k_ => ((((((some k_ ≠ (.slice Ao58 t213.length co58 : Value).ownBlock ∧ some k_ ≠ (.slice Ao42 t193.length co42 : Value).ownBlock) ∧ some k_ ≠ (.slice Ao43 t196.length co43 : Value).ownBlock) ∧ some k_ ≠ (.slice Ao44 t199.length co44 : Value).ownBlock) ∧ some k_ ≠ (.slice Ao45 t202.length co45 : Value).ownBlock) ∧ some k_ ≠ (.slice Ao50 t206.length co50 : Value).ownBlock) ∧ some k_ ≠ (.slice Ao54 t209.length co54 : Value).ownBlock)) (n := t216.length) (c := co63) ?_).2.2; exact (by (with_reducible repeat (first | apply Kd.S_alloc | apply Kd.S_drewN | apply Kd.S_drew)); exact (Kd.S_mono (Kd.S_far (p := ⟨gb219, 1, none⟩) (Kd.S_far (p := ⟨gb219, 0, none⟩) (Kd.S_types HO218.out BK219.out (by decide)) (fun _ hk => hk.2) (.slice Ao58 t213.length co58)) (fun _ hk => hk.2) (.slice Ao63 t216.length co63)) (fun _ h_ => h_.1)))); (case side8 => exact (Kd.S_reads' HO218.out).2.1); rintro e w65 ⟨rfl, hb⟩; refine ⟨_, rfl, ?_⟩; have n0_ := Aside0.mk (Kd.R_below (by (with_reducible repeat (first | apply Kd.R_alloc | apply Kd.R_drewN | apply Kd.R_drew)); exact (Kd.R_mono (Kd.R_far (p := ⟨gb219, 1, none⟩) (Kd.R_far (p := ⟨gb219, 0, none⟩) (Kd.R_types HO195.out BK219.out (by decide)) (fun _ hk => hk.2) (.slice Ao58 t213.length co58)) (fun _ hk => hk.2) (.slice Ao63 t216.length co63)) (fun _ h_ => h_.1))) hb); have n1_ := Aside0.mk (Kd.S_below (by (with_reducible repeat (first | apply Kd.S_alloc | apply Kd.S_drewN | apply Kd.S_drew)); exact (Kd.S_mono (Kd.S_far (p := ⟨gb219, 1, none⟩) (Kd.S_far (p := ⟨gb219, 0, none⟩) (Kd.S_types HO198.out BK219.out (by decide)) (fun _ hk => hk.2) (.slice Ao58 t213.length co58)) (fun _ hk => hk.2) (.slice Ao63 t216.length co63)) (fun _ h_ => h_.1))) hb); have n2_ := Aside0.mk (Kd.R_below (by (with_reducible repeat (first | apply Kd.R_alloc | apply Kd.R_drewN | apply Kd.R_drew)); exact (Kd.R_mono (Kd.R_far (p := ⟨gb219, 1, none⟩) (Kd.R_far (p := ⟨gb219, 0, none⟩) (Kd.R_types HO201.out BK219.out (by decide)) (fun _ hk => hk.2) (.slice Ao58 t213.length co58)) (fun _ hk => hk.2) (.slice Ao63 t216.length co63)) (fun _ h_ => h_.1))) hb); have n3_ := Aside0.mk (Kd.S_below (by (with_reducible repeat (first | apply Kd.S_alloc | apply Kd.S_drewN | apply Kd.S_drew)); exact (Kd.S_mono (Kd.S_far (p := ⟨gb219, 1, none⟩) (Kd.S_far (p := ⟨gb219, 0, none⟩) (Kd.S_types HO204.out BK219.out (by decide)) (fun _ hk => hk.2) (.slice Ao58 t213.length co58)) (fun _ hk => hk.2) (.slice Ao63 t216.length co63)) (fun _ h_ => h_.1))) hb); have n4_ := Aside0.mk (Kd.R_below (by (with_reducible repeat (first | apply Kd.R_alloc | apply Kd.R_drewN | apply Kd.R_drew)); exact (Kd.R_mono (Kd.R_far (p := ⟨gb219, 1, none⟩) (Kd.R_far (p := ⟨gb219, 0, none⟩) (Kd.R_types HO208.out BK219.out (by decide)) (fun _ hk => hk.2) (.slice Ao58 t213.length co58)) (fun _ hk => hk.2) (.slice Ao63 t216.length co63)) (fun _ h_ => h_.1))) hb); have n5_ := Aside0.mk (Kd.S_below (by (with_reducible repeat (first | apply Kd.S_alloc | apply Kd.S_drewN | apply Kd.S_drew)); exact (Kd.S_mono (Kd.S_far (p := ⟨gb219, 1, none⟩) (Kd.S_far (p := ⟨gb219, 0, none⟩) (Kd.S_types HO211.out BK219.out (by decide)) (fun _ hk => hk.2) (.slice Ao58 t213.length co58)) (fun _ hk => hk.2) (.slice Ao63 t216.length co63)) (fun _ h_ => h_.1))) hb); have n6_ := Aside0.mk (Kd.R_below (by (with_reducible repeat (first | apply Kd.R_alloc | apply Kd.R_drewN | apply Kd.R_drew)); exact (Kd.R_mono (Kd.R_far (p := ⟨gb219, 1, none⟩) (Kd.R_far (p := ⟨gb219, 0, none⟩) (Kd.R_types HO215.out BK219.out (by decide)) (fun _ hk => hk.2) (.slice Ao58 t213.length co58)) (fun _ hk => hk.2) (.slice Ao63 t216.length co63)) (fun _ h_ => h_.1))) hb); have n7_ := Aside0.mk (Kd.S_below (by (with_reducible repeat (first | apply Kd.S_alloc | apply Kd.S_drewN | apply Kd.S_drew)); exact (Kd.S_mono (Kd.S_far (p := ⟨gb219, 1, none⟩) (Kd.S_far (p := ⟨gb219, 0, none⟩) (Kd.S_types HO218.out BK219.out (by decide)) (fun _ hk => hk.2) (.slice Ao58 t213.length co58)) (fun _ hk => hk.2) (.slice Ao63 t216.length co63)) (fun _ h_ => h_.1))) hb); have n8_ := Aside0.mk (blk_below (g := gb189) (o := .cells #[.slice A0_0 l0_0.length c0_0, .slice A0_1 l0_1.length c0_1] 25 (0, 0)) (by (with_reducible repeat (first | refine blk_drewN ?_ _ | refine blk_drew ?_ | refine blk_alloc ?_ _)); refine blk_far ?_ NB189_219.out _; (with_reducible repeat (first | refine blk_drewN ?_ _ | refine blk_drew ?_ | refine blk_alloc ?_ _)); refine blk_far ?_ NB189_219.out _; (with_reducible repeat (first | refine blk_drewN ?_ _ | refine blk_drew ?_ | refine blk_alloc ?_ _)); exact BK189.out) hb); have n9_ := Aside0.mk (blk_below (g := gb190) (o := .cells #[.slice A1_0 l1_0.length c1_0, .slice A1_1 l1_1.length c1_1] 25 (0, 0)) (by (with_reducible repeat (first | refine blk_drewN ?_ _ | refine blk_drew ?_ | refine blk_alloc ?_ _)); refine blk_far ?_ NB190_219.out _; (with_reducible repeat (first | refine blk_drewN ?_ _ | refine blk_drew ?_ | refine blk_alloc ?_ _)); refine blk_far ?_ NB190_219.out _; (with_reducible repeat (first | refine blk_drewN ?_ _ | refine blk_drew ?_ | refine blk_alloc ?_ _)); exact BK190.out) hb); have n10_ := Aside0.mk (blk_below (g := gb212) (o := .cells #[.slice Ao50 t206.length co50, .slice Ao54 t209.length co54] 28 (0, 0)) (by (with_reducible repeat (first | refine blk_drewN ?_ _ | refine blk_drew ?_ | refine blk_alloc ?_ _)); refine blk_far ?_ NB212_219.out _; (with_reducible repeat (first | refine blk_drewN ?_ _ | refine blk_drew ?_ | refine blk_alloc ?_ _)); refine blk_far ?_ NB212_219.out _; (with_reducible repeat (first | refine blk_drewN ?_ _ | refine blk_drew ?_ | refine blk_alloc ?_ _)); exact BK212.out) hb); have n11_ := Aside0.mk (blk_below (g := gb219) (o := .cells #[.slice Ao58 t213.length co58, .slice Ao63 t216.length co63] 28 (0, 0)) (by (with_reducible repeat (first | refine blk_drewN ?_ _ | refine blk_drew ?_ | refine blk_alloc ?_ _)); refine blk_put (cs := #[.slice Ao58 t213.length co58, .slice none 0 0]) ?_ 1 _ rfl; (with_reducible repeat (first | refine blk_drewN ?_ _ | refine blk_drew ?_ | refine blk_alloc ?_ _)); refine blk_put (cs := #[.slice none 0 0, .slice none 0 0]) ?_ 0 _ rfl; (with_reducible repeat (first | refine blk_drewN ?_ _ | refine blk_drew ?_ | refine blk_alloc ?_ _)); exact BK219.out) hb); have n12_ := Aside0.mk (below_step (by repeat (first | (with_reducible first | exact HB.out | apply below_alloc | apply pw_below_drewN | apply below_drew1 | refine below_set ?_ GE189.out | refine below_set ?_ GE190.out | refine below_set ?_ GE212.out | refine below_set ?_ GE219.out) | exact HB.out)) hb); clear HO195; clear HO198; clear HO201; clear HO204; clear HO208; clear HO211; clear HO215; clear HO218; clear BK189; clear BK190; clear BK212; clear BK219; clear HB; have HO195 := n0_; have HO198 := n1_; have HO201 := n2_; have HO204 := n3_; have HO208 := n4_; have HO211 := n5_; have HO215 := n6_; have HO218 := n7_; have BK189 := n8_; have BK190 := n9_; have BK212 := n10_; have BK219 := n11_; have HB := n12_; clear n0_ n1_ n2_ n3_ n4_ n5_ n6_ n7_ n8_ n9_ n10_ n11_ n12_; (try clear hb); (try clear hb2); (try clear hk); (try clear hi)))
            have n0_ := Aside0.mk (Kd.R_drew HO195.out)
            have n1_ := Aside0.mk (Kd.S_drew HO198.out)
            have n2_ := Aside0.mk (Kd.R_drew HO201.out)
            have n3_ := Aside0.mk (Kd.S_drew HO204.out)
            have n4_ := Aside0.mk (Kd.R_drew HO208.out)
            have n5_ := Aside0.mk (Kd.S_drew HO211.out)
            have n6_ := Aside0.mk (Kd.R_drew HO215.out)
            have n7_ := Aside0.mk (Kd.S_drew HO218.out)
            have n8_ := Aside0.mk (blk_drew BK189.out)
            have n9_ := Aside0.mk (blk_drew BK190.out)
            have n10_ := Aside0.mk (blk_drew BK212.out)
            have n11_ := Aside0.mk (blk_drew BK219.out)
            have n12_ := Aside0.mk (below_drew1 HB.out)
            clear HO195
            clear HO198
            clear HO201
            clear HO204
            clear HO208
            clear HO211
            clear HO215
            clear HO218
            clear BK189
            clear BK190
            clear BK212
            clear BK219
            clear HB
            have HO195 := n0_
            have HO198 := n1_
            have HO201 := n2_
            have HO204 := n3_
            have HO208 := n4_
            have HO211 := n5_
            have HO215 := n6_
            have HO218 := n7_
            have BK189 := n8_
            have BK190 := n9_
            have BK212 := n10_
            have BK219 := n11_
            have HB := n12_
            clear n0_ n1_ n2_ n3_ n4_ n5_ n6_ n7_ n8_ n9_ n10_ n11_ n12_
            refine start_ (n := 5) (S := fun w' => w'.cell? ⟨gb212, 0, none⟩ = some (.slice Ao50 t206.length co50) ∧ w'.cell? ⟨gb212, 1, none⟩ = some (.slice Ao54 t209.length co54) ∧ w'.cell? ⟨gb189, 0, none⟩ = some (.slice A0_0 l0_0.length c0_0) ∧ w'.cell? ⟨gb189, 1, none⟩ = some (.slice A0_1 l0_1.length c0_1)) (ds := []) #[false, false, false, false, false] (by kernel_rfl) rfl rfl ⟨(blk_cell BK212.out 0).trans rfl, (blk_cell BK212.out 1).trans rfl, (blk_cell BK189.out 0).trans rfl, (blk_cell BK189.out 1).trans rfl⟩ (fun hHeld => ?_)
            generalize w65.drew = w66 at HO195 HO198 HO201 HO204 HO208 HO211 HO215 HO218 BK189 BK190 BK212 BK219 HB hHeld ⊢
            refine take_ (i := 0) (N := some 35) (v := ?_) (a' := ?_) #[true, false, false, false, false] rfl rfl (by kernel_rfl) (fun _ _ _ h => h) (Or.inl ⟨by rfl, ?_⟩) hHeld ?_ ?_
            rotate_left
            · rintro w' ⟨s0, s1, s2, s3⟩
              go_simp
              with_reducible rfl
            rotate_left
            · simp only [Act.put, List.setIfInBounds_toArray, List.set_cons_zero, List.set_cons_succ, i64_w, i32_w]
              rfl
            refine take_ (i := 1) (N := some 36) (v := ?_) (a' := ?_) #[true, true, false, false, false] rfl rfl (by kernel_rfl) (fun _ _ _ h => h) (Or.inl ⟨by rfl, ?_⟩) hHeld ?_ ?_
            rotate_left
            · rintro w' ⟨s0, s1, s2, s3⟩
              go_simp
              with_reducible rfl
            rotate_left
            · simp only [Act.put, List.setIfInBounds_toArray, List.set_cons_zero, List.set_cons_succ, i64_w, i32_w]
              rfl
            refine one_ (i := 2) (N := some 37) #[true, true, true, false, false] rfl rfl (by kernel_rfl) (by decide) (fun K hK => ?_)
            refine goes_ Try.func14 (by kernel_rfl) rfl #[.agg #[.slice A0_0 l0_0.length c0_0, .slice A0_1 l0_1.length c0_1]] (by rfl) rfl rfl (by (try simp only [List.map_toArray, List.map_cons, List.map_nil]); first | done | rfl | (simp only [List.length_drop, List.length_take]; rfl)) ?_
            with_reducible refine (laws_toTable.calls k _ _ l0_0 _ _ l0_1 t221 t224 _ ?side1 ?side2 ?side3 ?side4 A26.out).mono ?_
            (case side1 => repeat (first | exact (Kd.C_below HR0_0.out HB.out) | (with_reducible refine Kd.C_alloc ?_ _) | (with_reducible refine Kd.C_drewN ?_ _) | (with_reducible refine Kd.C_drew ?_)))
            (case side2 => exact HC0_0.out)
            (case side3 => repeat (first | exact (Kd.C_below HR0_1.out HB.out) | (with_reducible refine Kd.C_alloc ?_ _) | (with_reducible refine Kd.C_drewN ?_ _) | (with_reducible refine Kd.C_drew ?_)))
            (case side4 => exact HC0_1.out)
            rintro e w67 ⟨v222, v225, rfl, ho0, ho1, hb⟩
            refine ⟨_, rfl, ?_⟩
            have n0_ := Aside0.mk (Kd.R_elder' (by (with_reducible repeat (first | apply Kd.R_alloc | apply Kd.R_drewN | apply Kd.R_drew)); exact HO195.out) (Kd.R_base ho0) hb)
            have n1_ := Aside0.mk (Kd.S_mono (Kd.S_told (Kd.S_told (Kd.S_old (by (with_reducible repeat (first | apply Kd.S_alloc | apply Kd.S_drewN | apply Kd.S_drew)); exact HO198.out) hb) (Kd.R_base ho0)) (Kd.S_base ho1)) (fun _ h_ => h_.1))
            have n2_ := Aside0.mk (Kd.R_elder' (by (with_reducible repeat (first | apply Kd.R_alloc | apply Kd.R_drewN | apply Kd.R_drew)); exact HO201.out) (Kd.R_base ho0) hb)
            have n3_ := Aside0.mk (Kd.S_mono (Kd.S_told (Kd.S_told (Kd.S_old (by (with_reducible repeat (first | apply Kd.S_alloc | apply Kd.S_drewN | apply Kd.S_drew)); exact HO204.out) hb) (Kd.R_base ho0)) (Kd.S_base ho1)) (fun _ h_ => h_.1))
            have n4_ := Aside0.mk (Kd.R_elder' (by (with_reducible repeat (first | apply Kd.R_alloc | apply Kd.R_drewN | apply Kd.R_drew)); exact HO208.out) (Kd.R_base ho0) hb)
            have n5_ := Aside0.mk (Kd.S_mono (Kd.S_told (Kd.S_told (Kd.S_old (by (with_reducible repeat (first | apply Kd.S_alloc | apply Kd.S_drewN | apply Kd.S_drew)); exact HO211.out) hb) (Kd.R_base ho0)) (Kd.S_base ho1)) (fun _ h_ => h_.1))
            have n6_ := Aside0.mk (Kd.R_elder' (by (with_reducible repeat (first | apply Kd.R_alloc | apply Kd.R_drewN | apply Kd.R_drew)); exact HO215.out) (Kd.R_base ho0) hb)
            have n7_ := Aside0.mk (Kd.S_mono (Kd.S_told (Kd.S_told (Kd.S_old (by (with_reducible repeat (first | apply Kd.S_alloc | apply Kd.S_drewN | apply Kd.S_drew)); exact HO218.out) hb) (Kd.R_base ho0)) (Kd.S_base ho1)) (fun _ h_ => h_.1))
            have n8_ := Aside0.mk (Kd.R_lower (Kd.R_new' (Kd.R_new' (Kd.R_new' (Kd.R_new' ho0 (Kd.R_lt (by (with_reducible repeat (first | apply Kd.R_alloc | apply Kd.R_drewN | apply Kd.R_drew)); exact HO195.out))) (Kd.R_lt (by (with_reducible repeat (first | apply Kd.R_alloc | apply Kd.R_drewN | apply Kd.R_drew)); exact HO201.out))) (Kd.R_lt (by (with_reducible repeat (first | apply Kd.R_alloc | apply Kd.R_drewN | apply Kd.R_drew)); exact HO208.out))) (Kd.R_lt (by (with_reducible repeat (first | apply Kd.R_alloc | apply Kd.R_drewN | apply Kd.R_drew)); exact HO215.out))) (below_size (by repeat (first | (with_reducible first | exact HB.out | apply below_alloc | apply pw_below_drewN | apply below_drew1 | refine below_set ?_ GE189.out | refine below_set ?_ GE190.out | refine below_set ?_ GE212.out | refine below_set ?_ GE219.out) | exact HB.out))))
            have n9_ := Aside0.mk (Kd.S_lower (Kd.S_new' (Kd.S_new' (Kd.S_new' (Kd.S_new' (Kd.S_new' (Kd.S_new' (Kd.S_new' (Kd.S_new' ho1 (Kd.R_lt (by (with_reducible repeat (first | apply Kd.R_alloc | apply Kd.R_drewN | apply Kd.R_drew)); exact HO195.out))) (Kd.S_lt (by (with_reducible repeat (first | apply Kd.S_alloc | apply Kd.S_drewN | apply Kd.S_drew)); exact HO198.out))) (Kd.R_lt (by (with_reducible repeat (first | apply Kd.R_alloc | apply Kd.R_drewN | apply Kd.R_drew)); exact HO201.out))) (Kd.S_lt (by (with_reducible repeat (first | apply Kd.S_alloc | apply Kd.S_drewN | apply Kd.S_drew)); exact HO204.out))) (Kd.R_lt (by (with_reducible repeat (first | apply Kd.R_alloc | apply Kd.R_drewN | apply Kd.R_drew)); exact HO208.out))) (Kd.S_lt (by (with_reducible repeat (first | apply Kd.S_alloc | apply Kd.S_drewN | apply Kd.S_drew)); exact HO211.out))) (Kd.R_lt (by (with_reducible repeat (first | apply Kd.R_alloc | apply Kd.R_drewN | apply Kd.R_drew)); exact HO215.out))) (Kd.S_lt (by (with_reducible repeat (first | apply Kd.S_alloc | apply Kd.S_drewN | apply Kd.S_drew)); exact HO218.out))) (below_size (by repeat (first | (with_reducible first | exact HB.out | apply below_alloc | apply pw_below_drewN | apply below_drew1 | refine below_set ?_ GE189.out | refine below_set ?_ GE190.out | refine below_set ?_ GE212.out | refine below_set ?_ GE219.out) | exact HB.out))))
            have n10_ := Aside0.mk (blk_below (g := gb189) (o := .cells #[.slice A0_0 l0_0.length c0_0, .slice A0_1 l0_1.length c0_1] 25 (0, 0)) (by (with_reducible repeat (first | refine blk_drewN ?_ _ | refine blk_drew ?_ | refine blk_alloc ?_ _)); exact BK189.out) hb)
            have n11_ := Aside0.mk (blk_below (g := gb190) (o := .cells #[.slice A1_0 l1_0.length c1_0, .slice A1_1 l1_1.length c1_1] 25 (0, 0)) (by (with_reducible repeat (first | refine blk_drewN ?_ _ | refine blk_drew ?_ | refine blk_alloc ?_ _)); exact BK190.out) hb)
            have n12_ := Aside0.mk (blk_below (g := gb212) (o := .cells #[.slice Ao50 t206.length co50, .slice Ao54 t209.length co54] 28 (0, 0)) (by (with_reducible repeat (first | refine blk_drewN ?_ _ | refine blk_drew ?_ | refine blk_alloc ?_ _)); exact BK212.out) hb)
            have n13_ := Aside0.mk (blk_below (g := gb219) (o := .cells #[.slice Ao58 t213.length co58, .slice Ao63 t216.length co63] 28 (0, 0)) (by (with_reducible repeat (first | refine blk_drewN ?_ _ | refine blk_drew ?_ | refine blk_alloc ?_ _)); exact BK219.out) hb)
            have n14_ := Aside0.mk (below_step (by repeat (first | (with_reducible first | exact HB.out | apply below_alloc | apply pw_below_drewN | apply below_drew1 | refine below_set ?_ GE189.out | refine below_set ?_ GE190.out | refine below_set ?_ GE212.out | refine below_set ?_ GE219.out) | exact HB.out)) hb)
            clear HO195
            clear HO198
            clear HO201
            clear HO204
            clear HO208
            clear HO211
            clear HO215
            clear HO218
            clear BK189
            clear BK190
            clear BK212
            clear BK219
            clear HB
            have HO195 := n0_
            have HO198 := n1_
            have HO201 := n2_
            have HO204 := n3_
            have HO208 := n4_
            have HO211 := n5_
            have HO215 := n6_
            have HO218 := n7_
            have HO223 := n8_
            have HO226 := n9_
            have BK189 := n10_
            have BK190 := n11_
            have BK212 := n12_
            have BK219 := n13_
            have HB := n14_
            clear n0_ n1_ n2_ n3_ n4_ n5_ n6_ n7_ n8_ n9_ n10_ n11_ n12_ n13_ n14_
            (try clear hb)
            (try clear hb2)
            (try clear hk)
            (try clear hi)
            (try clear ho0)
            (try clear ho1)
            obtain ⟨Ao68, co68, eo68⟩ := Kd.R_slice HO223.out
            (first | subst eo68 | (injection eo68 with f1_ f2_ f3_; have f4_ := f1_.symm; have f5_ := f3_.symm; clear f1_ f2_ f3_; subst f4_; subst f5_))
            obtain ⟨Ao69, co69, eo69⟩ := Kd.S_slice HO226.out
            (first | subst eo69 | (injection eo69 with f1_ f2_ f3_; have f4_ := f1_.symm; have f5_ := f3_.symm; clear f1_ f2_ f3_; subst f4_; subst f5_))
            refine hK.out _ _ ⟨(blk_cell BK212.out 0).trans rfl, (blk_cell BK212.out 1).trans rfl, (blk_cell BK189.out 0).trans rfl, (blk_cell BK189.out 1).trans rfl⟩ (fun hHeld => ?_)
            clear hK K
            refine norm_ (a' := ?_) ?_ ?_
            rotate_left
            · show Act.put _ (some 37) _ = _
              simp only [Act.put, List.setIfInBounds_toArray, List.set_cons_zero, List.set_cons_succ, i64_w, i32_w]
              rfl
            refine one_ (i := 3) (N := some 38) #[true, true, true, true, false] rfl rfl (by kernel_rfl) (by decide) (fun K hK => ?_)
            refine goes_ Try.func16 (by kernel_rfl) rfl #[.agg #[.slice Ao50 t206.length co50, .slice Ao54 t209.length co54], .agg #[.slice Ao68 t221.length co68, .slice Ao69 t224.length co69]] (by rfl) rfl rfl (by (try simp only [List.map_toArray, List.map_cons, List.map_nil]); first | done | rfl | (simp only [List.length_drop, List.length_take]; rfl)) ?_
            with_reducible refine (laws_eqTable.calls k _ _ t206 _ _ t209 _ _ t221 _ _ t224 true _ ?side1 ?side2 ?side3 ?side4 ?side5 ?side6 ?side7 ?side8 A27.out).mono ?_
            (case side1 => repeat (first | exact (Kd.R_reads' HO208.out).2.2 | (with_reducible refine Kd.C_alloc ?_ _) | (with_reducible refine Kd.C_drewN ?_ _) | (with_reducible refine Kd.C_drew ?_)))
            (case side2 => exact (Kd.R_reads' HO208.out).2.1)
            (case side3 => repeat (first | exact (Kd.S_reads' HO211.out).2.2 | (with_reducible refine Kd.C_alloc ?_ _) | (with_reducible refine Kd.C_drewN ?_ _) | (with_reducible refine Kd.C_drew ?_)))
            (case side4 => exact (Kd.S_reads' HO211.out).2.1)
            (case side5 => repeat (first | exact (Kd.R_reads' HO223.out).2.2 | (with_reducible refine Kd.C_alloc ?_ _) | (with_reducible refine Kd.C_drewN ?_ _) | (with_reducible refine Kd.C_drew ?_)))
            (case side6 => exact (Kd.R_reads' HO223.out).2.1)
            (case side7 => repeat (first | exact (Kd.S_reads' HO226.out).2.2 | (with_reducible refine Kd.C_alloc ?_ _) | (with_reducible refine Kd.C_drewN ?_ _) | (with_reducible refine Kd.C_drew ?_)))
            (case side8 => exact (Kd.S_reads' HO226.out).2.1)
            rintro e w70 ⟨rfl, hb⟩
            refine ⟨_, rfl, ?_⟩
            have n0_ := Aside0.mk (Kd.R_below (by (with_reducible repeat (first | apply Kd.R_alloc | apply Kd.R_drewN | apply Kd.R_drew)); exact HO195.out) hb)
            have n1_ := Aside0.mk (Kd.S_below (by (with_reducible repeat (first | apply Kd.S_alloc | apply Kd.S_drewN | apply Kd.S_drew)); exact HO198.out) hb)
            have n2_ := Aside0.mk (Kd.R_below (by (with_reducible repeat (first | apply Kd.R_alloc | apply Kd.R_drewN | apply Kd.R_drew)); exact HO201.out) hb)
            have n3_ := Aside0.mk (Kd.S_below (by (with_reducible repeat (first | apply Kd.S_alloc | apply Kd.S_drewN | apply Kd.S_drew)); exact HO204.out) hb)
            have n4_ := Aside0.mk (Kd.R_below (by (with_reducible repeat (first | apply Kd.R_alloc | apply Kd.R_drewN | apply Kd.R_drew)); exact HO208.out) hb)
            have n5_ := Aside0.mk (Kd.S_below (by (with_reducible repeat (first | apply Kd.S_alloc | apply Kd.S_drewN | apply Kd.S_drew)); exact HO211.out) hb)
            have n6_ := Aside0.mk (Kd.R_below (by (with_reducible repeat (first | apply Kd.R_alloc | apply Kd.R_drewN | apply Kd.R_drew)); exact HO215.out) hb)
            have n7_ := Aside0.mk (Kd.S_below (by (with_reducible repeat (first | apply Kd.S_alloc | apply Kd.S_drewN | apply Kd.S_drew)); exact HO218.out) hb)
            have n8_ := Aside0.mk (Kd.R_below (by (with_reducible repeat (first | apply Kd.R_alloc | apply Kd.R_drewN | apply Kd.R_drew)); exact HO223.out) hb)
            have n9_ := Aside0.mk (Kd.S_below (by (with_reducible repeat (first | apply Kd.S_alloc | apply Kd.S_drewN | apply Kd.S_drew)); exact HO226.out) hb)
            have n10_ := Aside0.mk (blk_below (g := gb189) (o := .cells #[.slice A0_0 l0_0.length c0_0, .slice A0_1 l0_1.length c0_1] 25 (0, 0)) (by (with_reducible repeat (first | refine blk_drewN ?_ _ | refine blk_drew ?_ | refine blk_alloc ?_ _)); exact BK189.out) hb)
            have n11_ := Aside0.mk (blk_below (g := gb190) (o := .cells #[.slice A1_0 l1_0.length c1_0, .slice A1_1 l1_1.length c1_1] 25 (0, 0)) (by (with_reducible repeat (first | refine blk_drewN ?_ _ | refine blk_drew ?_ | refine blk_alloc ?_ _)); exact BK190.out) hb)
            have n12_ := Aside0.mk (blk_below (g := gb212) (o := .cells #[.slice Ao50 t206.length co50, .slice Ao54 t209.length co54] 28 (0, 0)) (by (with_reducible repeat (first | refine blk_drewN ?_ _ | refine blk_drew ?_ | refine blk_alloc ?_ _)); exact BK212.out) hb)
            have n13_ := Aside0.mk (blk_below (g := gb219) (o := .cells #[.slice Ao58 t213.length co58, .slice Ao63 t216.length co63] 28 (0, 0)) (by (with_reducible repeat (first | refine blk_drewN ?_ _ | refine blk_drew ?_ | refine blk_alloc ?_ _)); exact BK219.out) hb)
            have n14_ := Aside0.mk (below_step (by repeat (first | (with_reducible first | exact HB.out | apply below_alloc | apply pw_below_drewN | apply below_drew1 | refine below_set ?_ GE189.out | refine below_set ?_ GE190.out | refine below_set ?_ GE212.out | refine below_set ?_ GE219.out) | exact HB.out)) hb)
            clear HO195
            clear HO198
            clear HO201
            clear HO204
            clear HO208
            clear HO211
            clear HO215
            clear HO218
            clear HO223
            clear HO226
            clear BK189
            clear BK190
            clear BK212
            clear BK219
            clear HB
            have HO195 := n0_
            have HO198 := n1_
            have HO201 := n2_
            have HO204 := n3_
            have HO208 := n4_
            have HO211 := n5_
            have HO215 := n6_
            have HO218 := n7_
            have HO223 := n8_
            have HO226 := n9_
            have BK189 := n10_
            have BK190 := n11_
            have BK212 := n12_
            have BK219 := n13_
            have HB := n14_
            clear n0_ n1_ n2_ n3_ n4_ n5_ n6_ n7_ n8_ n9_ n10_ n11_ n12_ n13_ n14_
            (try clear hb)
            (try clear hb2)
            (try clear hk)
            (try clear hi)
            refine hK.out _ _ ⟨(blk_cell BK212.out 0).trans rfl, (blk_cell BK212.out 1).trans rfl, (blk_cell BK189.out 0).trans rfl, (blk_cell BK189.out 1).trans rfl⟩ (fun hHeld => ?_)
            clear hK K
            refine norm_ (a' := ?_) ?_ ?_
            rotate_left
            · show Act.put _ (some 38) _ = _
              simp only [Act.put, List.setIfInBounds_toArray, List.set_cons_zero, List.set_cons_succ, i64_w, i32_w]
              rfl
            refine pure_ (i := 4) (N := some 39) (v := ?_) (a' := ?_) #[true, true, true, true, true] rfl rfl (by kernel_rfl) (fun _ _ _ h => h) (Or.inl ⟨by rfl, ?_⟩) ?_ ?_
            rotate_left
            · intro w'
              go_simp
              with_reducible rfl
            rotate_left
            · simp only [Act.put, List.setIfInBounds_toArray, List.set_cons_zero, List.set_cons_succ, i64_w, i32_w]
              rfl
            refine done_ (by kernel_rfl) ?_
            try go_wp2
            have n0_ := Aside0.mk (Kd.R_drew HO195.out)
            have n1_ := Aside0.mk (Kd.S_drew HO198.out)
            have n2_ := Aside0.mk (Kd.R_drew HO201.out)
            have n3_ := Aside0.mk (Kd.S_drew HO204.out)
            have n4_ := Aside0.mk (Kd.R_drew HO208.out)
            have n5_ := Aside0.mk (Kd.S_drew HO211.out)
            have n6_ := Aside0.mk (Kd.R_drew HO215.out)
            have n7_ := Aside0.mk (Kd.S_drew HO218.out)
            have n8_ := Aside0.mk (Kd.R_drew HO223.out)
            have n9_ := Aside0.mk (Kd.S_drew HO226.out)
            have n10_ := Aside0.mk (blk_drew BK189.out)
            have n11_ := Aside0.mk (blk_drew BK190.out)
            have n12_ := Aside0.mk (blk_drew BK212.out)
            have n13_ := Aside0.mk (blk_drew BK219.out)
            have n14_ := Aside0.mk (below_drew1 HB.out)
            clear HO195
            clear HO198
            clear HO201
            clear HO204
            clear HO208
            clear HO211
            clear HO215
            clear HO218
            clear HO223
            clear HO226
            clear BK189
            clear BK190
            clear BK212
            clear BK219
            clear HB
            have HO195 := n0_
            have HO198 := n1_
            have HO201 := n2_
            have HO204 := n3_
            have HO208 := n4_
            have HO211 := n5_
            have HO215 := n6_
            have HO218 := n7_
            have HO223 := n8_
            have HO226 := n9_
            have BK189 := n10_
            have BK190 := n11_
            have BK212 := n12_
            have BK219 := n13_
            have HB := n14_
            clear n0_ n1_ n2_ n3_ n4_ n5_ n6_ n7_ n8_ n9_ n10_ n11_ n12_ n13_ n14_
            refine start_ (n := 5) (S := fun w' => w'.cell? ⟨gb219, 0, none⟩ = some (.slice Ao58 t213.length co58) ∧ w'.cell? ⟨gb219, 1, none⟩ = some (.slice Ao63 t216.length co63) ∧ w'.cell? ⟨gb190, 0, none⟩ = some (.slice A1_0 l1_0.length c1_0) ∧ w'.cell? ⟨gb190, 1, none⟩ = some (.slice A1_1 l1_1.length c1_1)) (ds := []) #[false, false, false, false, false] (by kernel_rfl) rfl rfl ⟨(blk_cell BK219.out 0).trans rfl, (blk_cell BK219.out 1).trans rfl, (blk_cell BK190.out 0).trans rfl, (blk_cell BK190.out 1).trans rfl⟩ (fun hHeld => ?_)
            generalize w70.drew = w71 at HO195 HO198 HO201 HO204 HO208 HO211 HO215 HO218 HO223 HO226 BK189 BK190 BK212 BK219 HB hHeld ⊢
            refine take_ (i := 0) (N := some 40) (v := ?_) (a' := ?_) #[true, false, false, false, false] rfl rfl (by kernel_rfl) (fun _ _ _ h => h) (Or.inl ⟨by rfl, ?_⟩) hHeld ?_ ?_
            rotate_left
            · rintro w' ⟨s0, s1, s2, s3⟩
              go_simp
              with_reducible rfl
            rotate_left
            · simp only [Act.put, List.setIfInBounds_toArray, List.set_cons_zero, List.set_cons_succ, i64_w, i32_w]
              rfl
            refine take_ (i := 1) (N := some 41) (v := ?_) (a' := ?_) #[true, true, false, false, false] rfl rfl (by kernel_rfl) (fun _ _ _ h => h) (Or.inl ⟨by rfl, ?_⟩) hHeld ?_ ?_
            rotate_left
            · rintro w' ⟨s0, s1, s2, s3⟩
              go_simp
              with_reducible rfl
            rotate_left
            · simp only [Act.put, List.setIfInBounds_toArray, List.set_cons_zero, List.set_cons_succ, i64_w, i32_w]
              rfl
            refine one_ (i := 2) (N := some 42) #[true, true, true, false, false] rfl rfl (by kernel_rfl) (by decide) (fun K hK => ?_)
            refine goes_ Try.func14 (by kernel_rfl) rfl #[.agg #[.slice A1_0 l1_0.length c1_0, .slice A1_1 l1_1.length c1_1]] (by rfl) rfl rfl (by (try simp only [List.map_toArray, List.map_cons, List.map_nil]); first | done | rfl | (simp only [List.length_drop, List.length_take]; rfl)) ?_
            with_reducible refine (laws_toTable.calls k _ _ l1_0 _ _ l1_1 t228 t231 _ ?side1 ?side2 ?side3 ?side4 A29.out).mono ?_
            (case side1 => repeat (first | exact (Kd.C_below HR1_0.out HB.out) | (with_reducible refine Kd.C_alloc ?_ _) | (with_reducible refine Kd.C_drewN ?_ _) | (with_reducible refine Kd.C_drew ?_)))
            (case side2 => exact HC1_0.out)
            (case side3 => repeat (first | exact (Kd.C_below HR1_1.out HB.out) | (with_reducible refine Kd.C_alloc ?_ _) | (with_reducible refine Kd.C_drewN ?_ _) | (with_reducible refine Kd.C_drew ?_)))
            (case side4 => exact HC1_1.out)
            rintro e w72 ⟨v229, v232, rfl, ho0, ho1, hb⟩
            refine ⟨_, rfl, ?_⟩
            have n0_ := Aside0.mk (Kd.R_elder' (by (with_reducible repeat (first | apply Kd.R_alloc | apply Kd.R_drewN | apply Kd.R_drew)); exact HO195.out) (Kd.R_base ho0) hb)
            have n1_ := Aside0.mk (Kd.S_mono (Kd.S_told (Kd.S_told (Kd.S_old (by (with_reducible repeat (first | apply Kd.S_alloc | apply Kd.S_drewN | apply Kd.S_drew)); exact HO198.out) hb) (Kd.R_base ho0)) (Kd.S_base ho1)) (fun _ h_ => h_.1))
            have n2_ := Aside0.mk (Kd.R_elder' (by (with_reducible repeat (first | apply Kd.R_alloc | apply Kd.R_drewN | apply Kd.R_drew)); exact HO201.out) (Kd.R_base ho0) hb)
            have n3_ := Aside0.mk (Kd.S_mono (Kd.S_told (Kd.S_told (Kd.S_old (by (with_reducible repeat (first | apply Kd.S_alloc | apply Kd.S_drewN | apply Kd.S_drew)); exact HO204.out) hb) (Kd.R_base ho0)) (Kd.S_base ho1)) (fun _ h_ => h_.1))
            have n4_ := Aside0.mk (Kd.R_elder' (by (with_reducible repeat (first | apply Kd.R_alloc | apply Kd.R_drewN | apply Kd.R_drew)); exact HO208.out) (Kd.R_base ho0) hb)
            have n5_ := Aside0.mk (Kd.S_mono (Kd.S_told (Kd.S_told (Kd.S_old (by (with_reducible repeat (first | apply Kd.S_alloc | apply Kd.S_drewN | apply Kd.S_drew)); exact HO211.out) hb) (Kd.R_base ho0)) (Kd.S_base ho1)) (fun _ h_ => h_.1))
            have n6_ := Aside0.mk (Kd.R_elder' (by (with_reducible repeat (first | apply Kd.R_alloc | apply Kd.R_drewN | apply Kd.R_drew)); exact HO215.out) (Kd.R_base ho0) hb)
            have n7_ := Aside0.mk (Kd.S_mono (Kd.S_told (Kd.S_told (Kd.S_old (by (with_reducible repeat (first | apply Kd.S_alloc | apply Kd.S_drewN | apply Kd.S_drew)); exact HO218.out) hb) (Kd.R_base ho0)) (Kd.S_base ho1)) (fun _ h_ => h_.1))
            have n8_ := Aside0.mk (Kd.R_elder' (by (with_reducible repeat (first | apply Kd.R_alloc | apply Kd.R_drewN | apply Kd.R_drew)); exact HO223.out) (Kd.R_base ho0) hb)
            have n9_ := Aside0.mk (Kd.S_mono (Kd.S_told (Kd.S_told (Kd.S_old (by (with_reducible repeat (first | apply Kd.S_alloc | apply Kd.S_drewN | apply Kd.S_drew)); exact HO226.out) hb) (Kd.R_base ho0)) (Kd.S_base ho1)) (fun _ h_ => h_.1))
            have n10_ := Aside0.mk (Kd.R_lower (Kd.R_new' (Kd.R_new' (Kd.R_new' (Kd.R_new' (Kd.R_new' ho0 (Kd.R_lt (by (with_reducible repeat (first | apply Kd.R_alloc | apply Kd.R_drewN | apply Kd.R_drew)); exact HO195.out))) (Kd.R_lt (by (with_reducible repeat (first | apply Kd.R_alloc | apply Kd.R_drewN | apply Kd.R_drew)); exact HO201.out))) (Kd.R_lt (by (with_reducible repeat (first | apply Kd.R_alloc | apply Kd.R_drewN | apply Kd.R_drew)); exact HO208.out))) (Kd.R_lt (by (with_reducible repeat (first | apply Kd.R_alloc | apply Kd.R_drewN | apply Kd.R_drew)); exact HO215.out))) (Kd.R_lt (by (with_reducible repeat (first | apply Kd.R_alloc | apply Kd.R_drewN | apply Kd.R_drew)); exact HO223.out))) (below_size (by repeat (first | (with_reducible first | exact HB.out | apply below_alloc | apply pw_below_drewN | apply below_drew1 | refine below_set ?_ GE189.out | refine below_set ?_ GE190.out | refine below_set ?_ GE212.out | refine below_set ?_ GE219.out) | exact HB.out))))
            have n11_ := Aside0.mk (Kd.S_lower (Kd.S_new' (Kd.S_new' (Kd.S_new' (Kd.S_new' (Kd.S_new' (Kd.S_new' (Kd.S_new' (Kd.S_new' (Kd.S_new' (Kd.S_new' ho1 (Kd.R_lt (by (with_reducible repeat (first | apply Kd.R_alloc | apply Kd.R_drewN | apply Kd.R_drew)); exact HO195.out))) (Kd.S_lt (by (with_reducible repeat (first | apply Kd.S_alloc | apply Kd.S_drewN | apply Kd.S_drew)); exact HO198.out))) (Kd.R_lt (by (with_reducible repeat (first | apply Kd.R_alloc | apply Kd.R_drewN | apply Kd.R_drew)); exact HO201.out))) (Kd.S_lt (by (with_reducible repeat (first | apply Kd.S_alloc | apply Kd.S_drewN | apply Kd.S_drew)); exact HO204.out))) (Kd.R_lt (by (with_reducible repeat (first | apply Kd.R_alloc | apply Kd.R_drewN | apply Kd.R_drew)); exact HO208.out))) (Kd.S_lt (by (with_reducible repeat (first | apply Kd.S_alloc | apply Kd.S_drewN | apply Kd.S_drew)); exact HO211.out))) (Kd.R_lt (by (with_reducible repeat (first | apply Kd.R_alloc | apply Kd.R_drewN | apply Kd.R_drew)); exact HO215.out))) (Kd.S_lt (by (with_reducible repeat (first | apply Kd.S_alloc | apply Kd.S_drewN | apply Kd.S_drew)); exact HO218.out))) (Kd.R_lt (by (with_reducible repeat (first | apply Kd.R_alloc | apply Kd.R_drewN | apply Kd.R_drew)); exact HO223.out))) (Kd.S_lt (by (with_reducible repeat (first | apply Kd.S_alloc | apply Kd.S_drewN | apply Kd.S_drew)); exact HO226.out))) (below_size (by repeat (first | (with_reducible first | exact HB.out | apply below_alloc | apply pw_below_drewN | apply below_drew1 | refine below_set ?_ GE189.out | refine below_set ?_ GE190.out | refine below_set ?_ GE212.out | refine below_set ?_ GE219.out) | exact HB.out))))
            have n12_ := Aside0.mk (blk_below (g := gb189) (o := .cells #[.slice A0_0 l0_0.length c0_0, .slice A0_1 l0_1.length c0_1] 25 (0, 0)) (by (with_reducible repeat (first | refine blk_drewN ?_ _ | refine blk_drew ?_ | refine blk_alloc ?_ _)); exact BK189.out) hb)
            have n13_ := Aside0.mk (blk_below (g := gb190) (o := .cells #[.slice A1_0 l1_0.length c1_0, .slice A1_1 l1_1.length c1_1] 25 (0, 0)) (by (with_reducible repeat (first | refine blk_drewN ?_ _ | refine blk_drew ?_ | refine blk_alloc ?_ _)); exact BK190.out) hb)
            have n14_ := Aside0.mk (blk_below (g := gb212) (o := .cells #[.slice Ao50 t206.length co50, .slice Ao54 t209.length co54] 28 (0, 0)) (by (with_reducible repeat (first | refine blk_drewN ?_ _ | refine blk_drew ?_ | refine blk_alloc ?_ _)); exact BK212.out) hb)
            have n15_ := Aside0.mk (blk_below (g := gb219) (o := .cells #[.slice Ao58 t213.length co58, .slice Ao63 t216.length co63] 28 (0, 0)) (by (with_reducible repeat (first | refine blk_drewN ?_ _ | refine blk_drew ?_ | refine blk_alloc ?_ _)); exact BK219.out) hb)
            have n16_ := Aside0.mk (below_step (by repeat (first | (with_reducible first | exact HB.out | apply below_alloc | apply pw_below_drewN | apply below_drew1 | refine below_set ?_ GE189.out | refine below_set ?_ GE190.out | refine below_set ?_ GE212.out | refine below_set ?_ GE219.out) | exact HB.out)) hb)
            clear HO195
            clear HO198
            clear HO201
            clear HO204
            clear HO208
            clear HO211
            clear HO215
            clear HO218
            clear HO223
            clear HO226
            clear BK189
            clear BK190
            clear BK212
            clear BK219
            clear HB
            have HO195 := n0_
            have HO198 := n1_
            have HO201 := n2_
            have HO204 := n3_
            have HO208 := n4_
            have HO211 := n5_
            have HO215 := n6_
            have HO218 := n7_
            have HO223 := n8_
            have HO226 := n9_
            have HO230 := n10_
            have HO233 := n11_
            have BK189 := n12_
            have BK190 := n13_
            have BK212 := n14_
            have BK219 := n15_
            have HB := n16_
            clear n0_ n1_ n2_ n3_ n4_ n5_ n6_ n7_ n8_ n9_ n10_ n11_ n12_ n13_ n14_ n15_ n16_
            (try clear hb)
            (try clear hb2)
            (try clear hk)
            (try clear hi)
            (try clear ho0)
            (try clear ho1)
            obtain ⟨Ao73, co73, eo73⟩ := Kd.R_slice HO230.out
            (first | subst eo73 | (injection eo73 with f1_ f2_ f3_; have f4_ := f1_.symm; have f5_ := f3_.symm; clear f1_ f2_ f3_; subst f4_; subst f5_))
            obtain ⟨Ao74, co74, eo74⟩ := Kd.S_slice HO233.out
            (first | subst eo74 | (injection eo74 with f1_ f2_ f3_; have f4_ := f1_.symm; have f5_ := f3_.symm; clear f1_ f2_ f3_; subst f4_; subst f5_))
            refine hK.out _ _ ⟨(blk_cell BK219.out 0).trans rfl, (blk_cell BK219.out 1).trans rfl, (blk_cell BK190.out 0).trans rfl, (blk_cell BK190.out 1).trans rfl⟩ (fun hHeld => ?_)
            clear hK K
            refine norm_ (a' := ?_) ?_ ?_
            rotate_left
            · show Act.put _ (some 42) _ = _
              simp only [Act.put, List.setIfInBounds_toArray, List.set_cons_zero, List.set_cons_succ, i64_w, i32_w]
              rfl
            refine one_ (i := 3) (N := some 43) #[true, true, true, true, false] rfl rfl (by kernel_rfl) (by decide) (fun K hK => ?_)
            refine goes_ Try.func16 (by kernel_rfl) rfl #[.agg #[.slice Ao58 t213.length co58, .slice Ao63 t216.length co63], .agg #[.slice Ao73 t228.length co73, .slice Ao74 t231.length co74]] (by rfl) rfl rfl (by (try simp only [List.map_toArray, List.map_cons, List.map_nil]); first | done | rfl | (simp only [List.length_drop, List.length_take]; rfl)) ?_
            with_reducible refine (laws_eqTable.calls k _ _ t213 _ _ t216 _ _ t228 _ _ t231 true _ ?side1 ?side2 ?side3 ?side4 ?side5 ?side6 ?side7 ?side8 A30.out).mono ?_
            (case side1 => repeat (first | exact (Kd.R_reads' HO215.out).2.2 | (with_reducible refine Kd.C_alloc ?_ _) | (with_reducible refine Kd.C_drewN ?_ _) | (with_reducible refine Kd.C_drew ?_)))
            (case side2 => exact (Kd.R_reads' HO215.out).2.1)
            (case side3 => repeat (first | exact (Kd.S_reads' HO218.out).2.2 | (with_reducible refine Kd.C_alloc ?_ _) | (with_reducible refine Kd.C_drewN ?_ _) | (with_reducible refine Kd.C_drew ?_)))
            (case side4 => exact (Kd.S_reads' HO218.out).2.1)
            (case side5 => repeat (first | exact (Kd.R_reads' HO230.out).2.2 | (with_reducible refine Kd.C_alloc ?_ _) | (with_reducible refine Kd.C_drewN ?_ _) | (with_reducible refine Kd.C_drew ?_)))
            (case side6 => exact (Kd.R_reads' HO230.out).2.1)
            (case side7 => repeat (first | exact (Kd.S_reads' HO233.out).2.2 | (with_reducible refine Kd.C_alloc ?_ _) | (with_reducible refine Kd.C_drewN ?_ _) | (with_reducible refine Kd.C_drew ?_)))
            (case side8 => exact (Kd.S_reads' HO233.out).2.1)
            rintro e w75 ⟨rfl, hb⟩
            refine ⟨_, rfl, ?_⟩
            have n0_ := Aside0.mk (Kd.R_below (by (with_reducible repeat (first | apply Kd.R_alloc | apply Kd.R_drewN | apply Kd.R_drew)); exact HO195.out) hb)
            have n1_ := Aside0.mk (Kd.S_below (by (with_reducible repeat (first | apply Kd.S_alloc | apply Kd.S_drewN | apply Kd.S_drew)); exact HO198.out) hb)
            have n2_ := Aside0.mk (Kd.R_below (by (with_reducible repeat (first | apply Kd.R_alloc | apply Kd.R_drewN | apply Kd.R_drew)); exact HO201.out) hb)
            have n3_ := Aside0.mk (Kd.S_below (by (with_reducible repeat (first | apply Kd.S_alloc | apply Kd.S_drewN | apply Kd.S_drew)); exact HO204.out) hb)
            have n4_ := Aside0.mk (Kd.R_below (by (with_reducible repeat (first | apply Kd.R_alloc | apply Kd.R_drewN | apply Kd.R_drew)); exact HO208.out) hb)
            have n5_ := Aside0.mk (Kd.S_below (by (with_reducible repeat (first | apply Kd.S_alloc | apply Kd.S_drewN | apply Kd.S_drew)); exact HO211.out) hb)
            have n6_ := Aside0.mk (Kd.R_below (by (with_reducible repeat (first | apply Kd.R_alloc | apply Kd.R_drewN | apply Kd.R_drew)); exact HO215.out) hb)
            have n7_ := Aside0.mk (Kd.S_below (by (with_reducible repeat (first | apply Kd.S_alloc | apply Kd.S_drewN | apply Kd.S_drew)); exact HO218.out) hb)
            have n8_ := Aside0.mk (Kd.R_below (by (with_reducible repeat (first | apply Kd.R_alloc | apply Kd.R_drewN | apply Kd.R_drew)); exact HO223.out) hb)
            have n9_ := Aside0.mk (Kd.S_below (by (with_reducible repeat (first | apply Kd.S_alloc | apply Kd.S_drewN | apply Kd.S_drew)); exact HO226.out) hb)
            have n10_ := Aside0.mk (Kd.R_below (by (with_reducible repeat (first | apply Kd.R_alloc | apply Kd.R_drewN | apply Kd.R_drew)); exact HO230.out) hb)
            have n11_ := Aside0.mk (Kd.S_below (by (with_reducible repeat (first | apply Kd.S_alloc | apply Kd.S_drewN | apply Kd.S_drew)); exact HO233.out) hb)
            have n12_ := Aside0.mk (blk_below (g := gb189) (o := .cells #[.slice A0_0 l0_0.length c0_0, .slice A0_1 l0_1.length c0_1] 25 (0, 0)) (by (with_reducible repeat (first | refine blk_drewN ?_ _ | refine blk_drew ?_ | refine blk_alloc ?_ _)); exact BK189.out) hb)
            have n13_ := Aside0.mk (blk_below (g := gb190) (o := .cells #[.slice A1_0 l1_0.length c1_0, .slice A1_1 l1_1.length c1_1] 25 (0, 0)) (by (with_reducible repeat (first | refine blk_drewN ?_ _ | refine blk_drew ?_ | refine blk_alloc ?_ _)); exact BK190.out) hb)
            have n14_ := Aside0.mk (blk_below (g := gb212) (o := .cells #[.slice Ao50 t206.length co50, .slice Ao54 t209.length co54] 28 (0, 0)) (by (with_reducible repeat (first | refine blk_drewN ?_ _ | refine blk_drew ?_ | refine blk_alloc ?_ _)); exact BK212.out) hb)
            have n15_ := Aside0.mk (blk_below (g := gb219) (o := .cells #[.slice Ao58 t213.length co58, .slice Ao63 t216.length co63] 28 (0, 0)) (by (with_reducible repeat (first | refine blk_drewN ?_ _ | refine blk_drew ?_ | refine blk_alloc ?_ _)); exact BK219.out) hb)
            have n16_ := Aside0.mk (below_step (by repeat (first | (with_reducible first | exact HB.out | apply below_alloc | apply pw_below_drewN | apply below_drew1 | refine below_set ?_ GE189.out | refine below_set ?_ GE190.out | refine below_set ?_ GE212.out | refine below_set ?_ GE219.out) | exact HB.out)) hb)
            clear HO195
            clear HO198
            clear HO201
            clear HO204
            clear HO208
            clear HO211
            clear HO215
            clear HO218
            clear HO223
            clear HO226
            clear HO230
            clear HO233
            clear BK189
            clear BK190
            clear BK212
            clear BK219
            clear HB
            have HO195 := n0_
            have HO198 := n1_
            have HO201 := n2_
            have HO204 := n3_
            have HO208 := n4_
            have HO211 := n5_
            have HO215 := n6_
            have HO218 := n7_
            have HO223 := n8_
            have HO226 := n9_
            have HO230 := n10_
            have HO233 := n11_
            have BK189 := n12_
            have BK190 := n13_
            have BK212 := n14_
            have BK219 := n15_
            have HB := n16_
            clear n0_ n1_ n2_ n3_ n4_ n5_ n6_ n7_ n8_ n9_ n10_ n11_ n12_ n13_ n14_ n15_ n16_
            (try clear hb)
            (try clear hb2)
            (try clear hk)
            (try clear hi)
            refine hK.out _ _ ⟨(blk_cell BK219.out 0).trans rfl, (blk_cell BK219.out 1).trans rfl, (blk_cell BK190.out 0).trans rfl, (blk_cell BK190.out 1).trans rfl⟩ (fun hHeld => ?_)
            clear hK K
            refine norm_ (a' := ?_) ?_ ?_
            rotate_left
            · show Act.put _ (some 43) _ = _
              simp only [Act.put, List.setIfInBounds_toArray, List.set_cons_zero, List.set_cons_succ, i64_w, i32_w]
              rfl
            refine pure_ (i := 4) (N := some 44) (v := ?_) (a' := ?_) #[true, true, true, true, true] rfl rfl (by kernel_rfl) (fun _ _ _ h => h) (Or.inl ⟨by rfl, ?_⟩) ?_ ?_
            rotate_left
            · intro w'
              go_simp
              with_reducible rfl
            rotate_left
            · simp only [Act.put, List.setIfInBounds_toArray, List.set_cons_zero, List.set_cons_succ, i64_w, i32_w]
              rfl
            refine done_ (by kernel_rfl) ?_
            try go_wp2
            go_ret
            exact ⟨by first | rfl | (simp [errW_none, errW_some] <;> rfl) | (simp [*, errW_none, errW_some] <;> rfl), by repeat (first | (with_reducible first | exact HB.out | apply below_alloc | apply pw_below_drewN | apply below_drew1 | refine below_set ?_ GE189.out | refine below_set ?_ GE190.out | refine below_set ?_ GE212.out | refine below_set ?_ GE219.out) | exact HB.out)⟩
          · replace c31 := Bool.eq_false_iff.mpr c31
            subst c31
            have H1 : (some false) = some r := by rw [if_neg (show ¬ (false = true) by decide)] at H; exact H
            clear H
            have H := H1
            clear H1
            exact absurd ((Option.some.inj H).trans HLAW.out) (by decide)
        · replace c28 := Bool.eq_false_iff.mpr c28
          subst c28
          have H1 : (some false) = some r := by rw [if_neg (show ¬ (false = true) by decide)] at H; exact H
          clear H
          have H := H1
          clear H1
          exact absurd ((Option.some.inj H).trans HLAW.out) (by decide)

end Go.Proofs.Ytpcchfklmcalaaa.P

namespace Go.Proofs.Ytpcchfklmcalaaa.P
open Go.RowKit Go.Proofs.YtpcchfklmcalaaaW.PrintWords
/-- The pure statement of the law. -/
def laws_FnExactSameTable.Pure : Prop := ∀ (x0 : S25) (x1 : S25), ((x0.f0.length ≤ 9223372036854775807 ∧ ∀ x0_ ∈ x0.f0, (Lit.int .i16 x0_).wf = true) ∧ (x0.f1.length ≤ 9223372036854775807 ∧ ∀ x0_ ∈ x0.f1, (x0_.length ≤ 9223372036854775807 ∧ ∀ x1_ ∈ x0_, (Lit.int .i16 x1_).wf = true))) → ((x1.f0.length ≤ 9223372036854775807 ∧ ∀ x0_ ∈ x1.f0, (Lit.int .i16 x0_).wf = true) ∧ (x1.f1.length ≤ 9223372036854775807 ∧ ∀ x0_ ∈ x1.f1, (x0_.length ≤ 9223372036854775807 ∧ ∀ x1_ ∈ x0_, (Lit.int .i16 x1_).wf = true))) → ∃ k, laws_FnExactSameTable.f k x0.f0 x0.f1 x1.f0 x1.f1 = some true
end Go.Proofs.Ytpcchfklmcalaaa.P

namespace Go.Proofs.Ytpcchfklmcalaaa.Pure
open Go.RowKit Go.Proofs.Ytpcchfklmcalaaa.P Go.Proofs.YtpcchfklmcalaaaW.PrintWords Go.Proofs.YtpcchfklmcalaaaW.PrintLast
set_option linter.unusedVariables false
set_option linter.unusedSimpArgs false

theorem EvG {α : Type} {g : Nat → Option α} {r : α} (h : Ev g r) : ∃ K, ∀ k, K ≤ k → g k = some r := h
theorem EvI {α : Type} {g : Nat → Option α} {r : α} (K : Nat) (h : ∀ k, K ≤ k → g k = some r) : Ev g r := ⟨K, h⟩
theorem w64 {x : Int} (h0 : -9223372036854775808 ≤ x) (h1 : x ≤ 9223372036854775807) : wrap64 x = x := by
  unfold wrap64; omega
theorem wN (i : Nat) (h : i < 4611686018427387904) : wrap64 ((i : Int) + 1) = ((i + 1 : Nat) : Int) := by
  unfold wrap64; omega
theorem rdN (l : List Int) (i : Nat) : rd l (i : Int) = l.getD i 0 := rfl
theorem rd_at (l : List Int) (i : Int) (n : Nat) (h : i = n) : rd l i = l.getD n 0 := by subst h; rfl
theorem getD_eq (l : List Int) (i : Nat) (h : i < l.length) : l.getD i 0 = l[i] := by
  rw [List.getD_eq_getElem?_getD, List.getElem?_eq_getElem h]; rfl
theorem getD_mem (l : List Int) (i : Nat) (h : i < l.length) : l.getD i 0 ∈ l := by rw [getD_eq l i h]; exact List.getElem_mem h
theorem list_ext (a b : List Int) (hl : a.length = b.length) (h : ∀ j, j < b.length → a.getD j 0 = b.getD j 0) : a = b := by
  apply List.ext_getElem hl
  intro i h1 h2
  have := h i h2
  rwa [getD_eq a i h1, getD_eq b i h2] at this
theorem getD_set (l : List Int) (i j : Nat) (v : Int) (h : i < l.length) : (l.set i v).getD j 0 = if i = j then v else l.getD j 0 := by
  simp only [List.getD_eq_getElem?_getD, List.getElem?_set]
  by_cases e : i = j
  · subst e; simp [h]
  · simp [e]
theorem getD_rep (n j : Nat) (v : Int) (h : j < n) : (List.replicate n v).getD j 0 = v := by
  simp [List.getD_eq_getElem?_getD, List.getElem?_replicate, h]

end Go.Proofs.Ytpcchfklmcalaaa.Pure

namespace Go.Proofs.Ytpcchfklmcalaaa.P
open Go.RowKit Go.Proofs.YtpcchfklmcalaaaW.PrintWords Go.Proofs.YtpcchfklmcalaaaW.PrintLast Go.Proofs.YtpcchfklmcalaaaW.PrintMore
attribute [local go_sem] max2_int min2_int max_two min_two max_three min_three max_four min_four   -- for this text's walks alone
set_option linter.unusedVariables false
set_option linter.unusedSimpArgs false

/-! ### spec_l00In: function 66 -/
def spec_l00In.f (a0 : Int) (a1 : Int) (a2 : Int) : Option (Bool) := if a0 ≥ a1 then (some (decide (a0 ≤ a2))) else (some false)
set_option maxHeartbeats 8000000 in
set_option maxRecDepth 100000 in
theorem spec_l00In.calls (a0 : Int) (a1 : Int) (a2 : Int) (r : Bool) (w : World) (h : spec_l00In.f a0 a1 a2 = some r) :
    Calls Try.prog 66 #[.int .i64 a0, .int .i64 a1, .int .i64 a2] w fun e w' => e = .returned (.bool r) ∧ Drawn0 w w' := by
  have H : (if a0 ≥ a1 then (some (decide (a0 ≤ a2))) else (some false)) = some r := h
  clear h
  by_cases c4 : a0 ≥ a1
  · rw [if_pos c4] at H
    have c4b0 : decide (a1 ≤ a0) = true := decide_eq_true c4
    clear c4
    obtain rfl := Option.some.inj H
    go_enter Try.func66, Try.ntmps66
    go_wp2
    go_ret
    exact ⟨by first | rfl | (simp; done) | (simp [*]; done), by repeat (first | exact Drawn0.refl _ | apply Drawn0.step)⟩
  · rw [if_neg c4] at H
    have c4b0 : decide (a1 ≤ a0) = false := decide_eq_false c4
    clear c4
    obtain rfl := Option.some.inj H
    go_enter Try.func66, Try.ntmps66
    go_wp2
    go_ret
    exact ⟨by first | rfl | (simp; done) | (simp [*]; done), by repeat (first | exact Drawn0.refl _ | apply Drawn0.step)⟩

end Go.Proofs.Ytpcchfklmcalaaa.P

namespace Go.Proofs.Ytpcchfklmcalaaa.P
open Go.RowKit Go.Proofs.YtpcchfklmcalaaaW.PrintWords Go.Proofs.YtpcchfklmcalaaaW.PrintLast Go.Proofs.YtpcchfklmcalaaaW.PrintMore
attribute [local go_sem] max2_int min2_int max_two min_two max_three min_three max_four min_four   -- for this text's walks alone
set_option linter.unusedVariables false
set_option linter.unusedSimpArgs false

/-! ### spec_l03Ok: function 39, by hand -/
/-- Numbers of the kinds that a table has, and not too many. -/
def spec_l03Ok.preT (s : List Int) (p : List (List Int)) : Prop := s.length ≤ 2000000 ∧ p.length ≤ 2000000 ∧ (∀ x ∈ s, -32768 ≤ x ∧ x ≤ 32767) ∧ ∀ l ∈ p, l.length ≤ 2000000 ∧ ∀ x ∈ l, -32768 ≤ x ∧ x ≤ 32767
instance spec_l03Ok.decT (s : List Int) (p : List (List Int)) : Decidable (spec_l03Ok.preT s p) := by unfold spec_l03Ok.preT; infer_instance
def spec_l03Ok.stepOk (s : List Int) (i : Nat) : Prop := (1 ≤ s.getD i 0 ∧ s.getD i 0 ≤ 2000) ∧ (0 < i → s.getD (i - 1) 0 < s.getD i 0)
def spec_l03Ok.cellOk (l : List Int) (i : Nat) : Prop := 0 ≤ l.getD i 0 ∧ l.getD i 0 ≤ 10000
def spec_l03Ok.rowOk (n : Nat) (l : List Int) : Prop := l.length = n ∧ ∀ i, i < l.length → spec_l03Ok.cellOk l i
instance (s : List Int) (i : Nat) : Decidable (spec_l03Ok.stepOk s i) := by unfold spec_l03Ok.stepOk; infer_instance
instance (s : List Int) (i : Nat) : Decidable (spec_l03Ok.cellOk s i) := by unfold spec_l03Ok.cellOk; infer_instance
instance (n : Nat) (l : List Int) : Decidable (spec_l03Ok.rowOk n l) := by unfold spec_l03Ok.rowOk; infer_instance
/-- A table is valid. -/
def spec_l03Ok.okP (s : List Int) (p : List (List Int)) : Prop := (∀ i, i < s.length → spec_l03Ok.stepOk s i) ∧ (∀ z, z < p.length → spec_l03Ok.rowOk s.length (p.getD z [])) ∧ (1 ≤ s.length ∧ s.length ≤ 10) ∧ (1 ≤ p.length ∧ p.length ≤ 6)
instance (s : List Int) (p : List (List Int)) : Decidable (spec_l03Ok.okP s p) := by unfold spec_l03Ok.okP; infer_instance
def spec_l03Ok.f (s : List Int) (p : List (List Int)) : Option Bool := if spec_l03Ok.preT s p then some (decide (spec_l03Ok.okP s p)) else none
theorem spec_l03Ok.callIn (a lo hi : Int) (b : Bool) (hb : b = (decide (lo ≤ a) && decide (a ≤ hi))) (w : World) : Calls Try.prog 66 #[.int .i64 a, .int .i64 lo, .int .i64 hi] w fun e w' => e = .returned (.bool b) ∧ Drawn0 w w' :=
  spec_l00In.calls a lo hi b w (by unfold spec_l00In.f; subst hb; by_cases h : lo ≤ a <;> simp [h])
/-- What a table in memory holds. -/
def spec_l03Ok.At (w : World) (B : Nat) (A0 : Option Addr) (c0 : Nat) (s : List Int) (A1 : Option Addr) (c1 : Nat) (p : List (List Int)) : Prop :=
  w.heap[B]? = some (.cells #[.slice A0 s.length c0, .slice A1 p.length c1] 28 (0, 0))
set_option maxHeartbeats 8000000 in
set_option maxRecDepth 100000 in
theorem spec_l03Ok.calls0 (A0_0 : Option Addr) (c0_0 : Nat) (l0_0 : List Int) (A0_1 : Option Addr) (c0_1 : Nat) (l0_1 : List (List Int)) (r : Bool) (w : World) (hr0_0 : Kd.C (Kd.int .i16) w A0_0 l0_0.length l0_0) (hc0_0 : l0_0.length ≤ c0_0) (hr0_1 : Kd.C (Kd.slice 57 (Kd.int .i16)) w A0_1 l0_1.length l0_1) (hc0_1 : l0_1.length ≤ c0_1) (h : spec_l03Ok.f l0_0 l0_1 = some r)
    {B : Nat} (hb : w.heap[B]? = some (.cells #[.slice A0_0 l0_0.length c0_0, .slice A0_1 l0_1.length c0_1] 28 (0, 0))) :
    Calls Try.prog 39 #[.pointer (some ⟨B, 0, none⟩)] w fun e w' => e = .returned (.bool r) ∧ Drawn0 w w' := by
  unfold spec_l03Ok.f at h
  split at h
  case isFalse => cases h
  case isTrue hpre =>
  obtain rfl := Option.some.inj h
  clear h
  have hk0 : w.cell? ⟨B, 0, none⟩ = some (.slice A0_0 l0_0.length c0_0) := (blk_cell hb 0).trans rfl
  have hk1 : w.cell? ⟨B, 1, none⟩ = some (.slice A0_1 l0_1.length c0_1) := (blk_cell hb 1).trans rfl
  obtain ⟨q1, q2, q3, q4⟩ := hpre
  have HR0 := Aside0.mk (Kd.reads_of_C (d := (0 : Int)) hr0_0)
  have HR1 := Aside0.mk hr0_1
  have Q3 := Aside0.mk q3
  have Q4 := Aside0.mk q4
  clear hr0_0 hr0_1 q3 q4 hb hc0_0 hc0_1
  go_enter Try.func39, Try.ntmps39
  go_wp2
  go_loopg [3] l0_0.length (fun gg v3 wr => ∃ kk : Nat, kk ≤ l0_0.length ∧ l0_0.length - kk ≤ gg ∧ v3 = .int .i64 kk ∧ Aside0 (∀ j, j < kk → spec_l03Ok.stepOk l0_0 j) ∧ Drawn0 w wr)
  case atStart => exact ⟨0, Nat.zero_le _, by omega, rfl, ⟨fun j hj => absurd hj (Nat.not_lt_zero _)⟩, Drawn0.refl _⟩
  case round =>
    obtain ⟨kk, hkk, hg, rfl, HA, ⟨m1, rfl⟩⟩ := hrel
    by_cases hlt : kk < l0_0.length
    · have hltz : (kk : Int) < (l0_0.length : Int) := by omega
      obtain ⟨ad, eA, hc⟩ := HR0.out.2.2 (by omega)
      subst eA
      have hcell := hc kk hlt
      obtain ⟨y, hy⟩ : ∃ y, y = l0_0.getD kk 0 := ⟨_, rfl⟩
      rw [← hy] at hcell
      have hyr : wrap64 y = y := by
        have hm : y ∈ l0_0 := by rw [hy, List.getD_eq_getElem?_getD, List.getElem?_eq_getElem hlt]; exact List.getElem_mem hlt
        have := Q3.out y hm
        unfold wrap64; omega
      have HW := Aside0.mk hyr
      have HY := Aside0.mk hy
      clear hyr hy
      by_cases c1 : 1 ≤ y ∧ y ≤ 2000
      · have HQ : Aside0 (true = (decide (1 ≤ wrap64 y) && decide (wrap64 y ≤ 2000))) := ⟨by rw [HW.out]; simp [c1.1, c1.2]⟩
        have HC := Aside0.mk c1
        clear c1
        by_cases hz : 0 < kk
        · obtain ⟨m, hm⟩ : ∃ m, m = kk - 1 := ⟨_, rfl⟩
          have hcell2 := hc m (by omega)
          clear hc
          obtain ⟨y2, hy2⟩ : ∃ y, y = l0_0.getD m 0 := ⟨_, rfl⟩
          rw [← hy2] at hcell2
          have HY2 := Aside0.mk hy2
          clear hy2
          have hz1 : decide (0 < kk) = true := by simpa using hz
          have hz2 : decide ((0 : Int) < (kk : Int)) = true := by simp; omega
          have hmlt : (m : Int) < (l0_0.length : Int) := by omega
          have hwr : IntKind.i64.wrap ((kk : Int) - 1) = (m : Int) := by
            have e : IntKind.i64.wrap ((kk : Int) - 1) = wrap64 ((kk : Int) - 1) := i64_w _
            rw [e]; unfold wrap64; omega
          have HM := Aside0.mk hm
          clear hm
          by_cases c2 : y ≤ y2
          · have c2b : decide (y ≤ y2) = true := by simpa using c2
            have C2 := Aside0.mk c2
            clear c2
            go_wp2_with (first | (go_at_call 66; (with_reducible refine (spec_l03Ok.callIn (wrap64 y) 1 2000 true HQ.out _).mono ?_); rintro e w' ⟨rfl, ⟨nd, rfl⟩⟩; (try first | exact ⟨rfl, _, World.drewN_drewN _ _ _⟩ | exact ⟨rfl, _, Eq.trans (World.drewN_drewN _ _ _) (congrArg (World.drewN _) (Nat.add_assoc _ _ _))⟩)))
            repeat (go_quiet (first | (go_at_call 66; (with_reducible refine (spec_l03Ok.callIn (wrap64 y) 1 2000 true HQ.out _).mono ?_); rintro e w' ⟨rfl, ⟨nd, rfl⟩⟩; (try first | exact ⟨rfl, _, World.drewN_drewN _ _ _⟩ | exact ⟨rfl, _, Eq.trans (World.drewN_drewN _ _ _) (congrArg (World.drewN _) (Nat.add_assoc _ _ _))⟩))); try go_wp2_with (first | (go_at_call 66; (with_reducible refine (spec_l03Ok.callIn (wrap64 y) 1 2000 true HQ.out _).mono ?_); rintro e w' ⟨rfl, ⟨nd, rfl⟩⟩; (try first | exact ⟨rfl, _, World.drewN_drewN _ _ _⟩ | exact ⟨rfl, _, Eq.trans (World.drewN_drewN _ _ _) (congrArg (World.drewN _) (Nat.add_assoc _ _ _))⟩))))
            go_ret
            exact ⟨by rw [show decide (spec_l03Ok.okP l0_0 l0_1) = false from decide_eq_false (fun hp => by have h := (hp.1 kk hlt).2 hz; rw [← HY.out, ← HM.out, ← HY2.out] at h; have := C2.out; omega)]; rfl, by repeat (first | exact Drawn0.refl _ | apply Drawn0.step)⟩
          · have c2b : decide (y ≤ y2) = false := by simpa using c2
            have C2 := Aside0.mk c2
            clear c2
            go_wp2_with (first | (go_at_call 66; (with_reducible refine (spec_l03Ok.callIn (wrap64 y) 1 2000 true HQ.out _).mono ?_); rintro e w' ⟨rfl, ⟨nd, rfl⟩⟩; (try first | exact ⟨rfl, _, World.drewN_drewN _ _ _⟩ | exact ⟨rfl, _, Eq.trans (World.drewN_drewN _ _ _) (congrArg (World.drewN _) (Nat.add_assoc _ _ _))⟩)))
            repeat (go_quiet (first | (go_at_call 66; (with_reducible refine (spec_l03Ok.callIn (wrap64 y) 1 2000 true HQ.out _).mono ?_); rintro e w' ⟨rfl, ⟨nd, rfl⟩⟩; (try first | exact ⟨rfl, _, World.drewN_drewN _ _ _⟩ | exact ⟨rfl, _, Eq.trans (World.drewN_drewN _ _ _) (congrArg (World.drewN _) (Nat.add_assoc _ _ _))⟩))); try go_wp2_with (first | (go_at_call 66; (with_reducible refine (spec_l03Ok.callIn (wrap64 y) 1 2000 true HQ.out _).mono ?_); rintro e w' ⟨rfl, ⟨nd, rfl⟩⟩; (try first | exact ⟨rfl, _, World.drewN_drewN _ _ _⟩ | exact ⟨rfl, _, Eq.trans (World.drewN_drewN _ _ _) (congrArg (World.drewN _) (Nat.add_assoc _ _ _))⟩))))
            go_roundg (l0_0.length - (kk + 1))
            case measure => omega
            case rel => exact ⟨kk + 1, by omega, by omega, by go_num, ⟨fun j hj => by
              by_cases e : j = kk
              · subst e
                exact ⟨by rw [← HY.out]; exact HC.out, fun _ => by rw [← HY.out, ← HM.out, ← HY2.out]; have := C2.out; omega⟩
              · exact HA.out j (by omega)⟩, by repeat (first | exact Drawn0.refl _ | apply Drawn0.step)⟩
        · have hz1 : decide (0 < kk) = false := by simpa using hz
          have hz2 : decide ((0 : Int) < (kk : Int)) = false := by simp; omega
          clear hc
          go_wp2_with (first | (go_at_call 66; (with_reducible refine (spec_l03Ok.callIn (wrap64 y) 1 2000 true HQ.out _).mono ?_); rintro e w' ⟨rfl, ⟨nd, rfl⟩⟩; (try first | exact ⟨rfl, _, World.drewN_drewN _ _ _⟩ | exact ⟨rfl, _, Eq.trans (World.drewN_drewN _ _ _) (congrArg (World.drewN _) (Nat.add_assoc _ _ _))⟩)))
          repeat (go_quiet (first | (go_at_call 66; (with_reducible refine (spec_l03Ok.callIn (wrap64 y) 1 2000 true HQ.out _).mono ?_); rintro e w' ⟨rfl, ⟨nd, rfl⟩⟩; (try first | exact ⟨rfl, _, World.drewN_drewN _ _ _⟩ | exact ⟨rfl, _, Eq.trans (World.drewN_drewN _ _ _) (congrArg (World.drewN _) (Nat.add_assoc _ _ _))⟩))); try go_wp2_with (first | (go_at_call 66; (with_reducible refine (spec_l03Ok.callIn (wrap64 y) 1 2000 true HQ.out _).mono ?_); rintro e w' ⟨rfl, ⟨nd, rfl⟩⟩; (try first | exact ⟨rfl, _, World.drewN_drewN _ _ _⟩ | exact ⟨rfl, _, Eq.trans (World.drewN_drewN _ _ _) (congrArg (World.drewN _) (Nat.add_assoc _ _ _))⟩))))
          go_roundg (l0_0.length - (kk + 1))
          case measure => omega
          case rel => exact ⟨kk + 1, by omega, by omega, by go_num, ⟨fun j hj => by
            by_cases e : j = kk
            · subst e
              exact ⟨by rw [← HY.out]; exact HC.out, fun h0 => absurd h0 hz⟩
            · exact HA.out j (by omega)⟩, by repeat (first | exact Drawn0.refl _ | apply Drawn0.step)⟩
      · have HQ : Aside0 (false = (decide (1 ≤ wrap64 y) && decide (wrap64 y ≤ 2000))) := ⟨by rw [HW.out]; by_cases e : 1 ≤ y <;> simp [e]; omega⟩
        have HC := Aside0.mk c1
        clear c1 hc
        go_wp2_with (first | (go_at_call 66; (with_reducible refine (spec_l03Ok.callIn (wrap64 y) 1 2000 false HQ.out _).mono ?_); rintro e w' ⟨rfl, ⟨nd, rfl⟩⟩; (try first | exact ⟨rfl, _, World.drewN_drewN _ _ _⟩ | exact ⟨rfl, _, Eq.trans (World.drewN_drewN _ _ _) (congrArg (World.drewN _) (Nat.add_assoc _ _ _))⟩)))
        repeat (go_quiet (first | (go_at_call 66; (with_reducible refine (spec_l03Ok.callIn (wrap64 y) 1 2000 false HQ.out _).mono ?_); rintro e w' ⟨rfl, ⟨nd, rfl⟩⟩; (try first | exact ⟨rfl, _, World.drewN_drewN _ _ _⟩ | exact ⟨rfl, _, Eq.trans (World.drewN_drewN _ _ _) (congrArg (World.drewN _) (Nat.add_assoc _ _ _))⟩))); try go_wp2_with (first | (go_at_call 66; (with_reducible refine (spec_l03Ok.callIn (wrap64 y) 1 2000 false HQ.out _).mono ?_); rintro e w' ⟨rfl, ⟨nd, rfl⟩⟩; (try first | exact ⟨rfl, _, World.drewN_drewN _ _ _⟩ | exact ⟨rfl, _, Eq.trans (World.drewN_drewN _ _ _) (congrArg (World.drewN _) (Nat.add_assoc _ _ _))⟩))))
        go_ret
        exact ⟨by rw [show decide (spec_l03Ok.okP l0_0 l0_1) = false from decide_eq_false (fun hp => HC.out (by rw [HY.out]; exact (hp.1 kk hlt).1))]; rfl, by repeat (first | exact Drawn0.refl _ | apply Drawn0.step)⟩
    · have hltz : ¬ (kk : Int) < (l0_0.length : Int) := by omega
      have HS : Aside0 (∀ j, j < l0_0.length → spec_l03Ok.stepOk l0_0 j) := ⟨fun j hj => HA.out j (by omega)⟩
      clear HA hkk hg hlt
      go_wp2
      go_loopg [4] l0_1.length (fun gg v4 wr => ∃ kk : Nat, kk ≤ l0_1.length ∧ l0_1.length - kk ≤ gg ∧ v4 = .int .i64 kk ∧ Aside0 (∀ z, z < kk → spec_l03Ok.rowOk l0_0.length (l0_1.getD z [])) ∧ Drawn0 w wr)
      case atStart => exact ⟨0, Nat.zero_le _, by omega, rfl, ⟨fun j hj => absurd hj (Nat.not_lt_zero _)⟩, by repeat (first | exact Drawn0.refl _ | apply Drawn0.step)⟩
      case round =>
        obtain ⟨zz, hzz, hg, rfl, HA, ⟨m2, rfl⟩⟩ := hrel
        by_cases hlt : zz < l0_1.length
        · have hltz : (zz : Int) < (l0_1.length : Int) := by omega
          obtain ⟨ad, c, eA, _, hK, hc⟩ := Kd.C_get HR1.out ([] : List Int) (zz : Int) (by omega) hltz
          obtain ⟨A2, c2, rfl, hl2, hC2⟩ := hK
          subst eA
          rw [Int.toNat_natCast] at hc hl2 hC2
          have hcell := hc 0 _ rfl
          clear hc
          rw [show zz * (Kd.slice 57 (Kd.int .i16)).sz + 0 = zz from by show zz * 1 + 0 = zz; omega] at hcell
          obtain ⟨row, hrow⟩ : ∃ y, y = l0_1.getD zz [] := ⟨_, rfl⟩
          rw [← hrow] at hcell hl2 hC2
          have hmem : row ∈ l0_1 := by rw [hrow, List.getD_eq_getElem?_getD, List.getElem?_eq_getElem hlt]; exact List.getElem_mem hlt
          have hbig := (Q4.out row hmem).1
          have HV := Aside0.mk (Q4.out row hmem).2
          have HROW := Aside0.mk hrow
          have HR2 := Aside0.mk (Kd.reads_of_C (d := (0 : Int)) hC2)
          clear hrow hC2 hl2 hmem
          by_cases hn : row.length = l0_0.length
          · have hn1 : (row.length == l0_0.length) = true := by simpa using hn
            have hn2 : (row.length != l0_0.length) = false := by simpa using hn
            have hn3 : ((row.length : Int) != (l0_0.length : Int)) = false := by simp; omega
            have HN := Aside0.mk hn
            clear hn
            go_wp2
            repeat (go_quiet (fail); try go_wp2)
            go_loopg [5] row.length (fun gg v5 wr => ∃ kk : Nat, kk ≤ row.length ∧ row.length - kk ≤ gg ∧ v5 = .int .i64 kk ∧ Aside0 (∀ z, z < kk → spec_l03Ok.cellOk row z) ∧ Drawn0 w wr)
            case atStart => exact ⟨0, Nat.zero_le _, by omega, rfl, ⟨fun j hj => absurd hj (Nat.not_lt_zero _)⟩, by repeat (first | exact Drawn0.refl _ | apply Drawn0.step)⟩
            case round =>
              obtain ⟨jj, hjj, hg2, rfl, HA2, ⟨m3, rfl⟩⟩ := hrel
              by_cases hlt2 : jj < row.length
              · have hltz2 : (jj : Int) < (row.length : Int) := by omega
                obtain ⟨ad2, eA2, hc2⟩ := HR2.out.2.2 (by omega)
                subst eA2
                have hcell2 := hc2 jj hlt2
                clear hc2
                obtain ⟨y, hy⟩ : ∃ y, y = row.getD jj 0 := ⟨_, rfl⟩
                rw [← hy] at hcell2
                have hyr : wrap64 y = y := by
                  have hm : y ∈ row := by rw [hy, List.getD_eq_getElem?_getD, List.getElem?_eq_getElem hlt2]; exact List.getElem_mem hlt2
                  have := HV.out y hm
                  unfold wrap64; omega
                have HW := Aside0.mk hyr
                have HY := Aside0.mk hy
                clear hyr hy
                by_cases c1 : 0 ≤ y ∧ y ≤ 10000
                · have HQ : Aside0 (true = (decide (0 ≤ wrap64 y) && decide (wrap64 y ≤ 10000))) := ⟨by rw [HW.out]; simp [c1.1, c1.2]⟩
                  have HC := Aside0.mk c1
                  clear c1
                  go_wp2_with (go_at_call 66; (with_reducible refine (spec_l03Ok.callIn (wrap64 y) 0 10000 true HQ.out _).mono ?_); rintro e w' ⟨rfl, ⟨nd, rfl⟩⟩)
                  go_roundg (row.length - (jj + 1))
                  case measure => omega
                  case rel =>
                    exact ⟨jj + 1, by omega, by omega, by go_num, ⟨fun j hj => by
                      by_cases e : j = jj
                      · subst e
                        show 0 ≤ row.getD j 0 ∧ row.getD j 0 ≤ 10000
                        rw [← HY.out]; exact HC.out
                      · exact HA2.out j (by omega)⟩, by repeat (first | exact Drawn0.refl _ | apply Drawn0.step)⟩
                · have HQ : Aside0 (false = (decide (0 ≤ wrap64 y) && decide (wrap64 y ≤ 10000))) := ⟨by rw [HW.out]; by_cases e : 0 ≤ y <;> simp [e]; omega⟩
                  have HC := Aside0.mk c1
                  clear c1
                  go_wp2_with (go_at_call 66; (with_reducible refine (spec_l03Ok.callIn (wrap64 y) 0 10000 false HQ.out _).mono ?_); rintro e w' ⟨rfl, ⟨nd, rfl⟩⟩)
                  go_ret
                  exact ⟨by rw [show decide (spec_l03Ok.okP l0_0 l0_1) = false from decide_eq_false (fun hp => HC.out (by rw [HY.out, HROW.out]; rw [HROW.out] at hlt2; exact (hp.2.1 zz hlt).2 jj hlt2))]; rfl, by repeat (first | exact Drawn0.refl _ | apply Drawn0.step)⟩
              · have hltz2 : ¬ (jj : Int) < (row.length : Int) := by omega
                have HRO : Aside0 (spec_l03Ok.rowOk l0_0.length row) := ⟨HN.out, fun i hi => HA2.out i (by omega)⟩
                clear HA2 hjj hg2 hlt2
                go_wp2
                go_roundg (l0_1.length - (zz + 1))
                case measure => omega
                case rel =>
                  exact ⟨zz + 1, by omega, by omega, by go_num, ⟨fun j hj => by
                    by_cases e : j = zz
                    · subst e
                      rw [← HROW.out]; exact HRO.out
                    · exact HA.out j (by omega)⟩, by repeat (first | exact Drawn0.refl _ | apply Drawn0.step)⟩
          · have hn1 : (row.length == l0_0.length) = false := by simpa using hn
            have hn2 : (row.length != l0_0.length) = true := by simpa using hn
            have hn3 : ((row.length : Int) != (l0_0.length : Int)) = true := by simp; omega
            have HN := Aside0.mk hn
            clear hn
            go_wp2
            repeat (go_quiet (fail); try go_wp2)
            go_ret
            exact ⟨by rw [show decide (spec_l03Ok.okP l0_0 l0_1) = false from decide_eq_false (fun hp => HN.out (by rw [HROW.out]; exact (hp.2.1 zz hlt).1))]; rfl, by repeat (first | exact Drawn0.refl _ | apply Drawn0.step)⟩
        · have hltz : ¬ (zz : Int) < (l0_1.length : Int) := by omega
          have HP : Aside0 (∀ z, z < l0_1.length → spec_l03Ok.rowOk l0_0.length (l0_1.getD z [])) := ⟨fun j hj => HA.out j (by omega)⟩
          clear HA hzz hg hlt
          obtain ⟨b1, hb1⟩ : ∃ b1, b1 = (decide ((1 : Int) ≤ (l0_0.length : Int)) && decide ((l0_0.length : Int) ≤ 10)) := ⟨_, rfl⟩
          obtain ⟨b2, hb2⟩ : ∃ b2, b2 = (decide ((1 : Int) ≤ (l0_1.length : Int)) && decide ((l0_1.length : Int) ≤ 6)) := ⟨_, rfl⟩
          have hres : decide (spec_l03Ok.okP l0_0 l0_1) = (b1 && b2) := by
            rw [hb1, hb2, Bool.eq_iff_iff]
            simp only [decide_eq_true_eq, Bool.and_eq_true]
            unfold spec_l03Ok.okP
            constructor
            · rintro ⟨_, _, h1, h2⟩; omega
            · rintro ⟨h1, h2⟩; exact ⟨HS.out, HP.out, by omega, by omega⟩
          have HB1 := Aside0.mk hb1
          have HB2 := Aside0.mk hb2
          have HRES := Aside0.mk hres
          clear hb1 hb2 hres
          cases b1 with
          | true =>
            go_wp2_with (first | (go_at_call 66; (with_reducible refine (spec_l03Ok.callIn (l0_0.length : Int) 1 10 true HB1.out _).mono ?_); rintro e w' ⟨rfl, ⟨nd, rfl⟩⟩) | (go_at_call 66; (with_reducible refine (spec_l03Ok.callIn (l0_1.length : Int) 1 6 b2 HB2.out _).mono ?_); rintro e w' ⟨rfl, ⟨nd, rfl⟩⟩))
            go_ret
            exact ⟨by rw [HRES.out]; rfl, by repeat (first | exact Drawn0.refl _ | apply Drawn0.step)⟩
          | false =>
            go_wp2_with (first | (go_at_call 66; (with_reducible refine (spec_l03Ok.callIn (l0_0.length : Int) 1 10 false HB1.out _).mono ?_); rintro e w' ⟨rfl, ⟨nd, rfl⟩⟩) | (go_at_call 66; (with_reducible refine (spec_l03Ok.callIn (l0_1.length : Int) 1 6 b2 HB2.out _).mono ?_); rintro e w' ⟨rfl, ⟨nd, rfl⟩⟩))
            go_ret
            exact ⟨by rw [HRES.out]; rfl, by repeat (first | exact Drawn0.refl _ | apply Drawn0.step)⟩
theorem spec_l03Ok.calls (A0_0 : Option Addr) (c0_0 : Nat) (l0_0 : List Int) (A0_1 : Option Addr) (c0_1 : Nat) (l0_1 : List (List Int)) (r : Bool) (w : World) (hr0_0 : Kd.C (Kd.int .i16) w A0_0 l0_0.length l0_0) (hc0_0 : l0_0.length ≤ c0_0) (hr0_1 : Kd.C (Kd.slice 57 (Kd.int .i16)) w A0_1 l0_1.length l0_1) (hc0_1 : l0_1.length ≤ c0_1) (h : spec_l03Ok.f l0_0 l0_1 = some r)
    {B : Nat} (hb : w.heap[B]? = some (.cells #[.slice A0_0 l0_0.length c0_0, .slice A0_1 l0_1.length c0_1] 28 (0, 0))) :
    Calls Try.prog 39 #[.pointer (some ⟨B, 0, none⟩)] w fun e w' => e = .returned (.bool r) ∧ Below w.heap.size w w' :=
  (spec_l03Ok.calls0 A0_0 c0_0 l0_0 A0_1 c0_1 l0_1 r w hr0_0 hc0_0 hr0_1 hc0_1 h hb).mono fun e w' hh => ⟨hh.1, hh.2.below⟩

end Go.Proofs.Ytpcchfklmcalaaa.P

namespace Go.Proofs.Ytpcchfklmcalaaa.Pure
open Go.RowKit Go.Proofs.Ytpcchfklmcalaaa.P Go.Proofs.YtpcchfklmcalaaaW.PrintWords Go.Proofs.YtpcchfklmcalaaaW.PrintLast
set_option linter.unusedVariables false
set_option linter.unusedSimpArgs false

theorem getD_eqG {α : Type} (z : α) (l : List α) (i : Nat) (h : i < l.length) : l.getD i z = l[i] := by
  rw [List.getD_eq_getElem?_getD, List.getElem?_eq_getElem h]; rfl
theorem getD_memG {α : Type} (z : α) (l : List α) (i : Nat) (h : i < l.length) : l.getD i z ∈ l := by rw [getD_eqG z l i h]; exact List.getElem_mem h
theorem list_extG {α : Type} (z : α) (a b : List α) (hl : a.length = b.length) (h : ∀ j, j < b.length → a.getD j z = b.getD j z) : a = b := by
  apply List.ext_getElem hl
  intro i h1 h2
  have := h i h2
  rwa [getD_eqG z a i h1, getD_eqG z b i h2] at this
theorem getD_setG {α : Type} (z : α) (l : List α) (i j : Nat) (v : α) (h : i < l.length) : (l.set i v).getD j z = if i = j then v else l.getD j z := by
  simp only [List.getD_eq_getElem?_getD, List.getElem?_set]
  by_cases e : i = j
  · subst e; simp [h]
  · simp [e]
theorem mem_getDG {α : Type} (z : α) (l : List α) (s : α) (h : s ∈ l) : ∃ i, i < l.length ∧ l.getD i z = s := by
  obtain ⟨i, hi, e⟩ := List.mem_iff_getElem.1 h
  exact ⟨i, hi, by rw [getD_eqG z l i hi, e]⟩
theorem rdL (l : List (List Int)) (i : Nat) : rd_L1 l (i : Int) = l.getD i [] := rfl

theorem szI16 (l : List Int) (a : Int) (h0 : 0 ≤ a) (h1 : a ≤ 1048576) (hl : l.length ≤ 9223372036854775807) : laws_szInt16S.f l a = some (if (l.length : Int) ≤ a then a - l.length else -1) := by
  unfold laws_szInt16S.f
  rw [w64 (by omega) (by omega)]
  split <;> split <;> first | rfl | omega
theorem szI16SS_l0 (l : List (List Int)) (hn : l.length ≤ 1048576) (hm : ∀ x ∈ l, x.length ≤ 9223372036854775807) : ∀ d i (a : Int), l.length - i = d → i ≤ l.length → 0 ≤ a → a ≤ 1048576 → (∀ j, j < i → (l.getD j []).length ≤ 1048576) →
    ∃ t, Ev (fun k => laws_szInt16SS.l0 k l a (i : Int)) t ∧ (t < 0 ∨ ∀ j, j < l.length → (l.getD j []).length ≤ 1048576) := by
  intro d
  induction d with
  | zero =>
    intro i a hd hi h0 h1 hj
    exact ⟨a, Ev.step (f := fun _ => some a) (fun k => by rw [laws_szInt16SS.l0, if_neg (by omega)]) (Ev.now _), .inr (fun j h => hj j (by omega))⟩
  | succ d ih =>
    intro i a hd hi h0 h1 hj
    have hb := hm _ (getD_memG [] l i (by omega))
    have e : ∀ k, laws_szInt16SS.l0 (k + 1) l a (i : Int) = (if (if ((l.getD i []).length : Int) ≤ a then a - (l.getD i []).length else -1) < 0 then some (-1) else laws_szInt16SS.l0 k l (if ((l.getD i []).length : Int) ≤ a then a - (l.getD i []).length else -1) ((i + 1 : Nat) : Int)) := fun k => by
      rw [laws_szInt16SS.l0, if_pos (by omega), if_pos (by omega), rdL, szI16 _ a h0 h1 hb, Option.bind_some, wN i (by omega)]
    by_cases c : ((l.getD i []).length : Int) ≤ a
    · obtain ⟨t, t1, t2⟩ := ih (i + 1) (a - (l.getD i []).length) (by omega) (by omega) (by omega) (by omega) (fun j h => by
        by_cases e : j = i
        · subst e; omega
        · exact hj j (by omega))
      exact ⟨t, Ev.step (fun k => by rw [e, if_pos c, if_neg (by omega)]) t1, t2⟩
    · exact ⟨-1, Ev.step (f := fun _ => some (-1)) (fun k => by rw [e, if_neg c, if_pos (by omega)]) (Ev.now _), .inl (by omega)⟩
/-- What a table counts: less than 0 where it is too great. -/
theorem szT (s : List Int) (p : List (List Int)) (hs : s.length ≤ 9223372036854775807) (hp : p.length ≤ 9223372036854775807) (hm : ∀ x ∈ p, x.length ≤ 9223372036854775807) :
    ∃ t, Ev (fun k => laws_szTable.f k s p 1048576) t ∧ (t < 0 ∨ (s.length ≤ 1048576 ∧ p.length ≤ 1048576 ∧ ∀ x ∈ p, x.length ≤ 1048576)) := by
  have e : ∀ k, laws_szTable.f k s p 1048576 = (if (if (s.length : Int) ≤ 1048576 then 1048576 - (s.length : Int) else -1) < 0 then some (-1) else (laws_szInt16SS.f k p (if (s.length : Int) ≤ 1048576 then 1048576 - (s.length : Int) else -1)).bind fun t105 => if t105 < 0 then some (-1) else some t105) := fun k => by
    rw [laws_szTable.f, szI16 s 1048576 (by omega) (by omega) hs, Option.bind_some]
  by_cases c : (s.length : Int) ≤ 1048576
  · by_cases c2 : 1048576 - (s.length : Int) - (p.length : Int) < 0
    · refine ⟨-1, EvI 0 fun k _ => ?_, .inl (by omega)⟩
      rw [e, if_pos c, if_neg (by omega), laws_szInt16SS.f, w64 (by omega) (by omega), if_pos c2, Option.bind_some, if_pos (by omega)]
    · obtain ⟨t, t1, t2⟩ := szI16SS_l0 p (by omega) hm _ 0 (1048576 - (s.length : Int) - (p.length : Int)) rfl (Nat.zero_le _) (by omega) (by omega) (fun j h => absurd h (Nat.not_lt_zero _))
      obtain ⟨K, t1⟩ := EvG t1
      refine ⟨if t < 0 then -1 else t, EvI K fun k hk => ?_, ?_⟩
      · rw [e, if_pos c, if_neg (by omega), laws_szInt16SS.f, w64 (by omega) (by omega), if_neg c2, show (0 : Int) = ((0 : Nat) : Int) from rfl, t1 k hk, Option.bind_some]
        split <;> rfl
      · by_cases ht : t < 0
        · rw [if_pos ht]; exact .inl (by omega)
        · rw [if_neg ht]
          refine .inr ⟨by omega, by omega, fun x hx => ?_⟩
          obtain ⟨i, hi, rfl⟩ := mem_getDG [] p x hx
          rcases t2 with t2 | t2
          · omega
          · exact t2 i hi
  · refine ⟨-1, EvI 0 fun k _ => ?_, .inl (by omega)⟩
    rw [e, if_neg c, if_pos (by omega)]

theorem toI16_l0 (l : List Int) (hb : l.length ≤ 1048576) : ∀ d i x, l.length - i = d → i ≤ l.length → x.length = l.length → (∀ j, j < i → x.getD j 0 = l.getD j 0) → Ev (fun k => laws_toInt16S.l0 k l x (i : Int)) l := by
  intro d
  induction d with
  | zero =>
    intro i x hd hi hx hj
    refine Ev.step (f := fun _ => some x) (fun k => ?_) ?_
    · rw [laws_toInt16S.l0, if_neg (by omega)]
    · have : x = l := list_extG 0 x l hx (fun j h => hj j (by omega))
      rw [this]; exact Ev.now l
  | succ d ih =>
    intro i x hd hi hx hj
    refine Ev.step (fun k => ?_) (ih (i + 1) (x.set i (l.getD i 0)) (by omega) (by omega) (by simpa using hx) ?_)
    · rw [laws_toInt16S.l0, if_pos (by omega), if_pos (by omega), if_pos (by omega), wN i (by omega), rdN, Int.toNat_natCast]
    · intro j h
      rw [getD_setG 0 x i j _ (by omega)]
      by_cases e : i = j
      · rw [if_pos e, e]
      · rw [if_neg e]; exact hj j (by omega)
theorem toI16 (l : List Int) (hb : l.length ≤ 1048576) : Ev (fun k => laws_toInt16S.f k l) l := by
  refine Ev.congr (f := fun k => laws_toInt16S.l0 k l (List.replicate l.length 0) ((0 : Nat) : Int)) (fun k => ?_) (toI16_l0 l hb _ 0 _ rfl (Nat.zero_le _) (by simp) (fun j h => absurd h (Nat.not_lt_zero _)))
  simp only [laws_toInt16S.f, Int.toNat_natCast]
  rw [if_pos (by omega), if_pos (by omega)]; rfl
theorem toI16SS_l0 (l : List (List Int)) (hb : l.length ≤ 1048576) (hm : ∀ x ∈ l, x.length ≤ 1048576) : ∀ d i x, l.length - i = d → i ≤ l.length → x.length = l.length → (∀ j, j < i → x.getD j [] = l.getD j []) → Ev (fun k => laws_toInt16SS.l0 k l x (i : Int)) l := by
  intro d
  induction d with
  | zero =>
    intro i x hd hi hx hj
    refine Ev.step (f := fun _ => some x) (fun k => ?_) ?_
    · rw [laws_toInt16SS.l0, if_neg (by omega)]
    · have : x = l := list_extG [] x l hx (fun j h => hj j (by omega))
      rw [this]; exact Ev.now l
  | succ d ih =>
    intro i x hd hi hx hj
    obtain ⟨K1, h1⟩ := EvG (toI16 (l.getD i []) (hm _ (getD_memG [] l i (by omega))))
    obtain ⟨K2, h2⟩ := EvG (ih (i + 1) (x.set i (l.getD i [])) (by omega) (by omega) (by simpa using hx) (fun j h => by
      rw [getD_setG [] x i j _ (by omega)]
      by_cases e : i = j
      · rw [if_pos e, e]
      · rw [if_neg e]; exact hj j (by omega)))
    refine EvI (K1 + K2 + 1) fun k hk => ?_
    obtain ⟨m, rfl⟩ : ∃ m, k = m + 1 := ⟨k - 1, by omega⟩
    rw [laws_toInt16SS.l0, if_pos (by omega), if_pos (by omega), rdL, h1 m (by omega), Option.bind_some, if_pos (by omega), wN i (by omega), Int.toNat_natCast, h2 m (by omega)]
theorem toI16SS (l : List (List Int)) (hb : l.length ≤ 1048576) (hm : ∀ x ∈ l, x.length ≤ 1048576) : Ev (fun k => laws_toInt16SS.f k l) l := by
  refine Ev.congr (f := fun k => laws_toInt16SS.l0 k l (List.replicate l.length []) ((0 : Nat) : Int)) (fun k => ?_) (toI16SS_l0 l hb hm _ 0 _ rfl (Nat.zero_le _) (by simp) (fun j h => absurd h (Nat.not_lt_zero _)))
  simp only [laws_toInt16SS.f, Int.toNat_natCast]
  rw [if_pos (by omega), if_pos (by omega)]; rfl
/-- A table is copied. -/
theorem toT (s : List Int) (p : List (List Int)) (hs : s.length ≤ 1048576) (hp : p.length ≤ 1048576) (hm : ∀ x ∈ p, x.length ≤ 1048576) : Ev (fun k => laws_toTable.f k s p) (s, p) := by
  obtain ⟨K1, h1⟩ := EvG (toI16 s hs)
  obtain ⟨K2, h2⟩ := EvG (toI16SS p hp hm)
  refine EvI (K1 + K2) fun k hk => ?_
  rw [laws_toTable.f, h1 k (by omega), Option.bind_some, h2 k (by omega), Option.bind_some]
theorem eqI16_l0 (l : List Int) (hb : l.length ≤ 1048576) : ∀ d i, l.length - i = d → i ≤ l.length → Ev (fun k => laws_eqInt16S.l0 k l l (i : Int)) true := by
  intro d
  induction d with
  | zero =>
    intro i hd hi
    refine Ev.step (f := fun _ => some true) (fun k => ?_) (Ev.now _)
    rw [laws_eqInt16S.l0, if_neg (by omega)]
  | succ d ih =>
    intro i hd hi
    refine Ev.step (fun k => ?_) (ih (i + 1) (by omega) (by omega))
    rw [laws_eqInt16S.l0, if_pos (by omega), if_pos (by omega), if_pos (by omega), if_pos rfl, wN i (by omega)]
theorem eqI16 (l : List Int) (hb : l.length ≤ 1048576) : Ev (fun k => laws_eqInt16S.f k l l) true := by
  refine Ev.congr (f := fun k => laws_eqInt16S.l0 k l l ((0 : Nat) : Int)) (fun k => ?_) (eqI16_l0 l hb _ 0 rfl (Nat.zero_le _))
  rw [laws_eqInt16S.f, if_pos rfl]; rfl
theorem eqI16SS_l0 (l : List (List Int)) (hb : l.length ≤ 1048576) (hm : ∀ x ∈ l, x.length ≤ 1048576) : ∀ d i, l.length - i = d → i ≤ l.length → Ev (fun k => laws_eqInt16SS.l0 k l l (i : Int)) true := by
  intro d
  induction d with
  | zero =>
    intro i hd hi
    refine Ev.step (f := fun _ => some true) (fun k => ?_) (Ev.now _)
    rw [laws_eqInt16SS.l0, if_neg (by omega)]
  | succ d ih =>
    intro i hd hi
    obtain ⟨K1, h1⟩ := EvG (eqI16 (l.getD i []) (hm _ (getD_memG [] l i (by omega))))
    obtain ⟨K2, h2⟩ := EvG (ih (i + 1) (by omega) (by omega))
    refine EvI (K1 + K2 + 1) fun k hk => ?_
    obtain ⟨m, rfl⟩ : ∃ m, k = m + 1 := ⟨k - 1, by omega⟩
    rw [laws_eqInt16SS.l0, if_pos (by omega), if_pos (by omega), if_pos (by omega), rdL, h1 m (by omega), Option.bind_some, if_pos rfl, wN i (by omega), h2 m (by omega)]
theorem eqI16SS (l : List (List Int)) (hb : l.length ≤ 1048576) (hm : ∀ x ∈ l, x.length ≤ 1048576) : Ev (fun k => laws_eqInt16SS.f k l l) true := by
  refine Ev.congr (f := fun k => laws_eqInt16SS.l0 k l l ((0 : Nat) : Int)) (fun k => ?_) (eqI16SS_l0 l hb hm _ 0 rfl (Nat.zero_le _))
  rw [laws_eqInt16SS.f, if_pos rfl]; rfl
/-- A table is equal to itself. -/
theorem eqT (s : List Int) (p : List (List Int)) (hs : s.length ≤ 1048576) (hp : p.length ≤ 1048576) (hm : ∀ x ∈ p, x.length ≤ 1048576) : Ev (fun k => laws_eqTable.f k s p s p) true := by
  obtain ⟨K1, h1⟩ := EvG (eqI16 s hs)
  obtain ⟨K2, h2⟩ := EvG (eqI16SS p hp hm)
  refine EvI (K1 + K2) fun k hk => ?_
  rw [laws_eqTable.f, h1 k (by omega), Option.bind_some, if_pos rfl, h2 k (by omega), Option.bind_some, if_pos rfl]
/-- What came in, not too much of it. -/
theorem preOf (s : List Int) (p : List (List Int)) (hs : s.length ≤ 1048576) (hp : p.length ≤ 1048576) (hm : ∀ x ∈ p, x.length ≤ 1048576) (ws : ∀ x ∈ s, (Lit.int .i16 x).wf = true) (wp : ∀ x ∈ p, ∀ y ∈ x, (Lit.int .i16 y).wf = true) : spec_l03Ok.preT s p :=
  ⟨by omega, by omega, fun x hx => bounds_i16 (ws x hx), fun l hl => ⟨by have := hm l hl; omega, fun x hx => bounds_i16 (wp l hl x hx)⟩⟩
theorem idxF_lt {α : Type} (p : α → Bool) (l : List α) : idxF p l < (l.length : Int) := by
  induction l with
  | nil => simp [idxF]
  | cons x l ih =>
    rw [idxF, List.length_cons]
    split
    · omega
    · split <;> omega

end Go.Proofs.Ytpcchfklmcalaaa.Pure

namespace Go.Proofs.Ytpcchfklmcalaaa.Pure
open Go.RowKit Go.Proofs.Ytpcchfklmcalaaa.P Go.Proofs.YtpcchfklmcalaaaW.PrintWords Go.Proofs.YtpcchfklmcalaaaW.PrintLast
set_option linter.unusedVariables false
set_option linter.unusedSimpArgs false

theorem szA_l0 (l : List (List Int)) (hn : l.length ≤ 1048576) (hm : ∀ x ∈ l, x.length ≤ 9223372036854775807) : ∀ d i (a : Int), l.length - i = d → i ≤ l.length → 0 ≤ a → a ≤ 1048576 → (∀ j, j < i → (l.getD j []).length ≤ 1048576) →
    ∃ t, Ev (fun k => laws_szInt16SS.l0 k l a (i : Int)) t ∧ (t < 0 ∨ (∀ j, j < l.length → (l.getD j []).length ≤ 1048576) ∧ t ≤ 1048576) := by
  intro d
  induction d with
  | zero =>
    intro i a hd hi h0 h1 hj
    exact ⟨a, Ev.step (f := fun _ => some a) (fun k => by rw [laws_szInt16SS.l0, if_neg (by omega)]) (Ev.now _), .inr ⟨fun j h => hj j (by omega), h1⟩⟩
  | succ d ih =>
    intro i a hd hi h0 h1 hj
    have hb := hm _ (getD_memG [] l i (by omega))
    have e : ∀ k, laws_szInt16SS.l0 (k + 1) l a (i : Int) = (if (if ((l.getD i []).length : Int) ≤ a then a - (l.getD i []).length else -1) < 0 then some (-1) else laws_szInt16SS.l0 k l (if ((l.getD i []).length : Int) ≤ a then a - (l.getD i []).length else -1) ((i + 1 : Nat) : Int)) := fun k => by
      rw [laws_szInt16SS.l0, if_pos (by omega), if_pos (by omega), rdL, szI16 _ a h0 h1 hb, Option.bind_some, wN i (by omega)]
    by_cases c : ((l.getD i []).length : Int) ≤ a
    · obtain ⟨t, t1, t2⟩ := ih (i + 1) (a - (l.getD i []).length) (by omega) (by omega) (by omega) (by omega) (fun j h => by
        by_cases e : j = i
        · subst e; omega
        · exact hj j (by omega))
      exact ⟨t, Ev.step (fun k => by rw [e, if_pos c, if_neg (by omega)]) t1, t2⟩
    · exact ⟨-1, Ev.step (f := fun _ => some (-1)) (fun k => by rw [e, if_neg c, if_pos (by omega)]) (Ev.now _), .inl (by omega)⟩
theorem szA (s : List Int) (p : List (List Int)) (a : Int) (h0 : 0 ≤ a) (h1 : a ≤ 1048576) (hs : s.length ≤ 9223372036854775807) (hp : p.length ≤ 9223372036854775807) (hm : ∀ x ∈ p, x.length ≤ 9223372036854775807) :
    ∃ t, Ev (fun k => laws_szTable.f k s p a) t ∧ (t < 0 ∨ (s.length ≤ 1048576 ∧ p.length ≤ 1048576 ∧ ∀ x ∈ p, x.length ≤ 1048576) ∧ t ≤ 1048576) := by
  have e : ∀ k, laws_szTable.f k s p a = (if (if (s.length : Int) ≤ a then a - (s.length : Int) else -1) < 0 then some (-1) else (laws_szInt16SS.f k p (if (s.length : Int) ≤ a then a - (s.length : Int) else -1)).bind fun t105 => if t105 < 0 then some (-1) else some t105) := fun k => by
    rw [laws_szTable.f, szI16 s a h0 h1 hs, Option.bind_some]
  by_cases c : (s.length : Int) ≤ a
  · by_cases c2 : a - (s.length : Int) - (p.length : Int) < 0
    · refine ⟨-1, EvI 0 fun k _ => ?_, .inl (by omega)⟩
      rw [e, if_pos c, if_neg (by omega), laws_szInt16SS.f, w64 (by omega) (by omega), if_pos c2, Option.bind_some, if_pos (by omega)]
    · obtain ⟨t, t1, t2⟩ := szA_l0 p (by omega) hm _ 0 (a - (s.length : Int) - (p.length : Int)) rfl (Nat.zero_le _) (by omega) (by omega) (fun j h => absurd h (Nat.not_lt_zero _))
      obtain ⟨K, t1⟩ := EvG t1
      refine ⟨if t < 0 then -1 else t, EvI K fun k hk => ?_, ?_⟩
      · rw [e, if_pos c, if_neg (by omega), laws_szInt16SS.f, w64 (by omega) (by omega), if_neg c2, show (0 : Int) = ((0 : Nat) : Int) from rfl, t1 k hk, Option.bind_some]
        split <;> rfl
      · by_cases ht : t < 0
        · rw [if_pos ht]; exact .inl (by omega)
        · rw [if_neg ht]
          obtain ⟨t3, t4⟩ := t2.resolve_left ht
          refine .inr ⟨⟨by omega, by omega, fun x hx => ?_⟩, t4⟩
          obtain ⟨i, hi, rfl⟩ := mem_getDG [] p x hx
          exact t3 i hi
  · refine ⟨-1, EvI 0 fun k _ => ?_, .inl (by omega)⟩
    rw [e, if_neg c, if_pos (by omega)]

theorem dec_ne {α : Type} [DecidableEq α] (z : α) (a b : List α) (j : Nat) (h : a.getD j z ≠ b.getD j z) : decide (a = b) = false := decide_eq_false (fun e => h (by rw [e]))
theorem same_l0 (a b : List Int) (hl : a.length = b.length) (hb : a.length ≤ 1048576) : ∀ d i, a.length - i = d → i ≤ a.length → (∀ j, j < i → a.getD j 0 = b.getD j 0) →
    Ev (fun k => spec_l03Same.l0 k a b (i : Int)) (decide (a = b)) ∧ Ev (fun k => slices_Equal_int16_int16.l0 k a b (a.length : Int) (i : Int)) (decide (a = b)) := by
  intro d
  induction d with
  | zero =>
    intro i hd hi hj
    have e : a = b := list_extG 0 a b hl (fun j h => hj j (by omega))
    rw [decide_eq_true e]
    exact ⟨Ev.step (f := fun _ => some true) (fun k => by rw [spec_l03Same.l0, if_neg (by omega)]) (Ev.now _), Ev.step (f := fun _ => some true) (fun k => by rw [slices_Equal_int16_int16.l0, if_neg (by omega)]) (Ev.now _)⟩
  | succ d ih =>
    intro i hd hi hj
    by_cases c : a.getD i 0 = b.getD i 0
    · obtain ⟨h1, h2⟩ := ih (i + 1) (by omega) (by omega) (fun j h => by
        by_cases e : j = i
        · subst e; exact c
        · exact hj j (by omega))
      exact ⟨Ev.step (fun k => by rw [spec_l03Same.l0, if_pos (by omega), if_pos (by omega), if_pos (by omega), rdN, rdN, if_pos c, wN i (by omega)]) h1,
        Ev.step (fun k => by rw [slices_Equal_int16_int16.l0, if_pos (by omega), if_pos (by omega), if_pos (by omega), if_pos (by omega), rdN, rdN, if_pos c, wN i (by omega)]) h2⟩
    · rw [dec_ne 0 a b i c]
      exact ⟨Ev.step (f := fun _ => some false) (fun k => by rw [spec_l03Same.l0, if_pos (by omega), if_pos (by omega), if_pos (by omega), rdN, rdN, if_neg c]) (Ev.now _),
        Ev.step (f := fun _ => some false) (fun k => by rw [slices_Equal_int16_int16.l0, if_pos (by omega), if_pos (by omega), if_pos (by omega), if_pos (by omega), rdN, rdN, if_neg c]) (Ev.now _)⟩
theorem same1 (a b : List Int) (hb : a.length ≤ 1048576) : Ev (fun k => spec_l03Same.f k a b) (decide (a = b)) ∧ Ev (fun k => slices_Equal_int16_int16.f k a b) (decide (a = b)) := by
  by_cases hl : a.length = b.length
  · obtain ⟨h1, h2⟩ := same_l0 a b hl hb _ 0 rfl (Nat.zero_le _) (fun j h => absurd h (Nat.not_lt_zero _))
    exact ⟨Ev.congr (fun k => by rw [spec_l03Same.f, if_pos (by omega)]; rfl) h1, Ev.congr (fun k => by rw [slices_Equal_int16_int16.f, if_pos (by omega)]; rfl) h2⟩
  · rw [decide_eq_false (fun e => hl (by rw [e]))]
    exact ⟨EvI 0 fun k _ => by rw [spec_l03Same.f, if_neg (by omega)], EvI 0 fun k _ => by rw [slices_Equal_int16_int16.f, if_neg (by omega)]⟩
theorem same2_l0 (s t : List Int) (p q : List (List Int)) (hl : p.length = q.length) (hb : p.length ≤ 1048576) (hm : ∀ x ∈ p, x.length ≤ 1048576) : ∀ d i, p.length - i = d → i ≤ p.length → (∀ j, j < i → p.getD j [] = q.getD j []) →
    Ev (fun k => spec_SameTable.l0 k (i : Int) s p t q) (decide (p = q)) ∧ Ev (fun k => slices_EqualFunc_int16_int16_int16_int16.l0 k q p (p.length : Int) (i : Int)) (decide (p = q)) := by
  intro d
  induction d with
  | zero =>
    intro i hd hi hj
    have e : p = q := list_extG [] p q hl (fun j h => hj j (by omega))
    rw [decide_eq_true e]
    exact ⟨Ev.step (f := fun _ => some true) (fun k => by rw [spec_SameTable.l0, if_neg (by omega)]) (Ev.now _), Ev.step (f := fun _ => some true) (fun k => by rw [slices_EqualFunc_int16_int16_int16_int16.l0, if_neg (by omega)]) (Ev.now _)⟩
  | succ d ih =>
    intro i hd hi hj
    obtain ⟨g1, g2⟩ := same1 (p.getD i []) (q.getD i []) (hm _ (getD_memG [] p i (by omega)))
    obtain ⟨K1, g1⟩ := EvG g1
    obtain ⟨K2, g2⟩ := EvG g2
    by_cases c : p.getD i [] = q.getD i []
    · obtain ⟨h1, h2⟩ := ih (i + 1) (by omega) (by omega) (fun j h => by
        by_cases e : j = i
        · subst e; exact c
        · exact hj j (by omega))
      obtain ⟨K3, h1⟩ := EvG h1
      obtain ⟨K4, h2⟩ := EvG h2
      refine ⟨EvI (K1 + K3 + 1) fun k hk => ?_, EvI (K2 + K4 + 1) fun k hk => ?_⟩
      · obtain ⟨m, rfl⟩ : ∃ m, k = m + 1 := ⟨k - 1, by omega⟩
        rw [spec_SameTable.l0, if_pos (by omega), if_pos (by omega), if_pos (by omega), rdL, rdL, g1 m (by omega), Option.bind_some, if_pos (decide_eq_true c), wN i (by omega), h1 m (by omega)]
      · obtain ⟨m, rfl⟩ : ∃ m, k = m + 1 := ⟨k - 1, by omega⟩
        rw [slices_EqualFunc_int16_int16_int16_int16.l0, if_pos (by omega), if_pos (by omega), if_pos (by omega), if_pos (by omega), rdL, rdL, g2 m (by omega), Option.bind_some, if_pos (decide_eq_true c), wN i (by omega), h2 m (by omega)]
    · rw [dec_ne [] p q i c]
      refine ⟨EvI (K1 + 1) fun k hk => ?_, EvI (K2 + 1) fun k hk => ?_⟩
      · obtain ⟨m, rfl⟩ : ∃ m, k = m + 1 := ⟨k - 1, by omega⟩
        rw [spec_SameTable.l0, if_pos (by omega), if_pos (by omega), if_pos (by omega), rdL, rdL, g1 m (by omega), Option.bind_some, if_neg (by simpa using c)]
      · obtain ⟨m, rfl⟩ : ∃ m, k = m + 1 := ⟨k - 1, by omega⟩
        rw [slices_EqualFunc_int16_int16_int16_int16.l0, if_pos (by omega), if_pos (by omega), if_pos (by omega), if_pos (by omega), rdL, rdL, g2 m (by omega), Option.bind_some, if_neg (by simpa using c)]
theorem sameBoth (s t : List Int) (p q : List (List Int)) (hs : s.length ≤ 1048576) (hp : p.length ≤ 1048576) (hm : ∀ x ∈ p, x.length ≤ 1048576) : ∃ r : Bool, Ev (fun k => spec_SameTable.f k s p t q) r ∧ Ev (fun k => impl_SameTable.f k s p t q) r := by
  obtain ⟨g1, g2⟩ := same1 s t hs
  obtain ⟨K1, g1⟩ := EvG g1
  obtain ⟨K2, g2⟩ := EvG g2
  by_cases c : s = t
  · by_cases hl : p.length = q.length
    · obtain ⟨h1, h2⟩ := same2_l0 s t p q hl hp hm _ 0 rfl (Nat.zero_le _) (fun j h => absurd h (Nat.not_lt_zero _))
      obtain ⟨K3, h1⟩ := EvG h1
      obtain ⟨K4, h2⟩ := EvG h2
      refine ⟨decide (p = q), EvI (K1 + K3 + 1) fun k hk => ?_, EvI (K2 + K4) fun k hk => ?_⟩
      · obtain ⟨m, rfl⟩ : ∃ m, k = m + 1 := ⟨k - 1, by omega⟩
        rw [spec_SameTable.f, g1 _ (by omega), Option.bind_some, if_pos (decide_eq_true c), spec_SameTable.j0, if_neg (by simp; omega)]
        exact h1 m (by omega)
      · rw [impl_SameTable.f, g2 _ (by omega), Option.bind_some, if_pos (decide_eq_true c), slices_EqualFunc_int16_int16_int16_int16.f, if_pos (by omega)]
        rw [show (0 : Int) = ((0 : Nat) : Int) from rfl, h2 k (by omega), Option.bind_some]
    · refine ⟨false, EvI (K1 + 1) fun k hk => ?_, EvI K2 fun k hk => ?_⟩
      · obtain ⟨m, rfl⟩ : ∃ m, k = m + 1 := ⟨k - 1, by omega⟩
        rw [spec_SameTable.f, g1 _ (by omega), Option.bind_some, if_pos (decide_eq_true c), spec_SameTable.j0, if_pos (by simp; omega)]
      · rw [impl_SameTable.f, g2 _ (by omega), Option.bind_some, if_pos (decide_eq_true c), slices_EqualFunc_int16_int16_int16_int16.f, if_neg (by omega), Option.bind_some]
  · refine ⟨false, EvI (K1 + 1) fun k hk => ?_, EvI K2 fun k hk => ?_⟩
    · obtain ⟨m, rfl⟩ : ∃ m, k = m + 1 := ⟨k - 1, by omega⟩
      rw [spec_SameTable.f, g1 _ (by omega), Option.bind_some, if_neg (by simpa using c), spec_SameTable.j0, if_pos rfl]
    · rw [impl_SameTable.f, g2 _ (by omega), Option.bind_some, if_neg (by simpa using c)]
theorem FnExactSameTable : laws_FnExactSameTable.Pure := by
  rintro ⟨s, p⟩ ⟨t, q⟩ ⟨⟨hs, ws⟩, ⟨hp, wp⟩⟩ ⟨⟨ht, wt⟩, ⟨hq, wq⟩⟩
  obtain ⟨a, a1, a2⟩ := szA s p 1048576 (by omega) (by omega) hs hp (fun x hx => (wp x hx).1)
  obtain ⟨K1, a1⟩ := EvG a1
  by_cases ha : a < 0
  · refine ⟨K1, ?_⟩
    rw [laws_FnExactSameTable.f, a1 _ (Nat.le_refl _), Option.bind_some, if_pos ha]
  · obtain ⟨⟨b1, b2, b3⟩, a3⟩ := a2.resolve_left ha
    obtain ⟨c, c1, c2⟩ := szA t q a (by omega) a3 ht hq (fun x hx => (wq x hx).1)
    obtain ⟨K2, c1⟩ := EvG c1
    by_cases hc : c < 0
    · refine ⟨K1 + K2, ?_⟩
      rw [laws_FnExactSameTable.f, a1 _ (by omega), Option.bind_some, if_neg ha, c1 _ (by omega), Option.bind_some, if_pos hc]
    · obtain ⟨⟨d1, d2, d3⟩, _⟩ := c2.resolve_left hc
      obtain ⟨K3, hT⟩ := EvG (toT s p b1 b2 b3)
      obtain ⟨K4, hE⟩ := EvG (eqT s p b1 b2 b3)
      obtain ⟨K5, hT2⟩ := EvG (toT t q d1 d2 d3)
      obtain ⟨K6, hE2⟩ := EvG (eqT t q d1 d2 d3)
      obtain ⟨r, r1, r2⟩ := sameBoth s t p q b1 b2 b3
      obtain ⟨K7, r1⟩ := EvG r1
      obtain ⟨K8, r2⟩ := EvG r2
      refine ⟨K1 + K2 + K3 + K4 + K5 + K6 + K7 + K8, ?_⟩
      rw [laws_FnExactSameTable.f, a1 _ (by omega), Option.bind_some, if_neg ha, c1 _ (by omega), Option.bind_some, if_neg hc, hT _ (by omega), Option.bind_some, hT2 _ (by omega), Option.bind_some, r1 _ (by omega), Option.bind_some, Option.bind_some, Option.bind_some, r2 _ (by omega), Option.bind_some, bne_self_eq_false, if_neg (by decide),
        Option.bind_some, hE _ (by omega), Option.bind_some, if_pos rfl, Option.bind_some, hE2 _ (by omega), Option.bind_some, if_pos rfl]

end Go.Proofs.Ytpcchfklmcalaaa.Pure

namespace Go.Proofs.Ytpcchfklmcalaaa.X
open Go.ChangeShapes Go.WideShapes Go.ChangeAt Go.RowKit Go.Proofs.YtpcchfklmcalaaaW.PrintWords Go.Deep
set_option linter.unusedVariables false

/-- What reads as data of type t is a value of kind d, and meets wf. -/
def Opens {α : Type} (P : Program) (t : TypeId) (d : Kd α) (wf : α → Prop) : Prop :=
  ∀ (H : Type) (enc : TypeId × Value → H) (W : World) (held : Bool) (fuel : Nat) (cs : List Value) (x : DataW H × List MemPlace), DataW.trod enc P W 0 (fun _ => true) held fuel t cs = some x → ∃ a, d.K W a cs ∧ wf a

theorem Opens.int {P : Program} {t : TypeId} {k : IntKind} (ht : P.underlying t = some (.int k)) : Opens P t (Kd.int k) (fun n => (Lit.int k n).wf = true) := by
  intro H enc W held fuel cs x h
  obtain ⟨n, rfl, _, hw⟩ := DataW.trod_int ht h
  exact ⟨n, rfl, hw⟩

theorem Opens.slice {α : Type} [Inhabited α] {P : Program} {t e : TypeId} {d : Kd α} {wf : α → Prop} (ht : P.underlying t = some (.slice e)) (hc : P.cellsOf e = d.sz) (h : Opens P e d wf) :
    Opens P t (Kd.slice e d) (fun l => l.length ≤ 9223372036854775807 ∧ ∀ a ∈ l, wf a) := by
  intro H enc W held fuel cs x hx
  rcases open_slice ht hx with ⟨rfl, _⟩ | ⟨ad, len, cap, m, n, D, Pl, rfl, _, hl, hm, hmm, _, hel⟩
  · exact ⟨[], ⟨none, 0, rfl, Nat.le_refl _, ⟨rfl, by simp, fun h => absurd h (Nat.lt_irrefl 0)⟩⟩, by simp, fun a ha => by cases ha⟩
  · have hmc : m = cap := by simpa using hmm
    have each : ∀ i, i < len → ∃ a : α, wf a ∧ ∃ c, c.length = d.sz ∧ d.K W a c ∧ ∀ j u, c[j]? = some u → W.cell? (ad.add (i * d.sz + j)) = some u := by
      intro i hi
      obtain ⟨cs', h1, h2⟩ := hel i (by omega)
      obtain ⟨_, hlen, hcell⟩ := World.cells?_some h1
      obtain ⟨a, hK, hw⟩ := h H enc W held n cs' _ h2
      refine ⟨a, hw, cs', by rw [hlen, hc], hK, fun j u hu => ?_⟩
      have hj : j < P.cellsOf e := by have := (List.getElem?_eq_some_iff.1 hu).1; omega
      have h3 := hcell j hj
      rw [hu, hc] at h3
      rw [← h3]
      congr 1
      unfold Addr.add
      by_cases h4 : i * d.sz = 0 <;> by_cases h5 : j = 0 <;> simp [h4, h5, Nat.add_assoc]
    obtain ⟨f, hf⟩ := choose_lt each
    have hlen : ((List.range len).map f).length = len := by simp
    refine ⟨(List.range len).map f, ⟨some ad, cap, by rw [hlen], by rw [hlen]; exact hl, ⟨rfl, by rw [hlen]; unfold maxLen at hm; omega, fun _ => ⟨ad, rfl, fun j p hp => ?_⟩⟩⟩, by rw [hlen]; unfold maxLen at hm; omega, fun a ha => ?_⟩
    · have hj : j < len := by have := (List.getElem?_eq_some_iff.1 hp).1; omega
      have hp2 : f j = p := by simpa [hj] using hp
      rw [← hp2]
      exact (hf j hj).2
    · obtain ⟨i, hi, rfl⟩ := List.mem_map.1 ha
      exact (hf i (List.mem_range.1 hi)).1

theorem Opens.pair {α β : Type} {P : Program} {t : TypeId} {a : Kd α} {b : Kd β} {wa : α → Prop} {wb : β → Prop} {f0 f1 : Field} (hs : P.underlying t = some (.struct #[f0, f1])) (o0 : f0.offset = 0) (c0 : P.cellsOf f0.type = a.sz) (o1 : f1.offset = a.sz) (c1 : P.cellsOf f1.type = b.sz) (hc : P.cellsOf t = a.sz + b.sz)
    (ha : Opens P f0.type a wa) (hb : Opens P f1.type b wb) : Opens P t (Kd.pair a b) (fun x => wa x.1 ∧ wb x.2) := by
  intro H enc W held fuel cs x hx
  obtain ⟨xs, n, _, _, hl, hxl, hf⟩ := DataW.trod_struct hs hx
  have hxl : xs.length = 2 := hxl
  have g0 := hf 0 f0 rfl
  have g1 := hf 1 f1 rfl
  rw [List.getElem?_eq_getElem (by omega)] at g0 g1
  obtain ⟨x0, k0, w0⟩ := ha H enc W held n _ _ g0
  obtain ⟨x1, k1, w1⟩ := hb H enc W held n _ _ g1
  refine ⟨(x0, x1), ⟨_, _, ?_, k0, k1⟩, w0, w1⟩
  rw [o0, o1, c0, c1, List.drop_zero]
  rw [List.take_of_length_le (l := cs.drop a.sz) (by rw [List.length_drop]; omega), List.take_append_drop]

theorem Opens.triple {α β γ : Type} {P : Program} {t : TypeId} {a : Kd α} {b : Kd β} {c : Kd γ} {wa : α → Prop} {wb : β → Prop} {wc : γ → Prop} {f0 f1 f2 : Field} (hs : P.underlying t = some (.struct #[f0, f1, f2])) (o0 : f0.offset = 0) (c0 : P.cellsOf f0.type = a.sz) (o1 : f1.offset = a.sz) (c1 : P.cellsOf f1.type = b.sz) (o2 : f2.offset = a.sz + b.sz) (c2 : P.cellsOf f2.type = c.sz) (hc : P.cellsOf t = a.sz + b.sz + c.sz)
    (ha : Opens P f0.type a wa) (hb : Opens P f1.type b wb) (hcc : Opens P f2.type c wc) : Opens P t (Kd.pair a (Kd.pair b c)) (fun x => wa x.1 ∧ wb x.2.1 ∧ wc x.2.2) := by
  intro H enc W held fuel cs x hx
  obtain ⟨xs, n, _, _, hl, hxl, hf⟩ := DataW.trod_struct hs hx
  have hxl : xs.length = 3 := hxl
  have g0 := hf 0 f0 rfl
  have g1 := hf 1 f1 rfl
  have g2 := hf 2 f2 rfl
  rw [List.getElem?_eq_getElem (by omega)] at g0 g1 g2
  obtain ⟨x0, k0, w0⟩ := ha H enc W held n _ _ g0
  obtain ⟨x1, k1, w1⟩ := hb H enc W held n _ _ g1
  obtain ⟨x2, k2, w2⟩ := hcc H enc W held n _ _ g2
  refine ⟨(x0, x1, x2), ⟨_, _, ?_, k0, ⟨_, _, rfl, k1, k2⟩⟩, w0, w1, w2⟩
  rw [o0, o1, o2, c0, c1, c2, List.drop_zero]
  rw [List.take_of_length_le (l := cs.drop (a.sz + b.sz)) (by rw [List.length_drop]; omega), ← List.drop_drop, List.take_append_drop, List.take_append_drop]

theorem Opens.iso {α β : Type} {P : Program} {t : TypeId} {d : Kd α} {wf : α → Prop} (f : β → α) (g : α → β) (hg : ∀ a, f (g a) = a) (h : Opens P t d wf) : Opens P t (Kd.iso d f) (fun b => wf (f b)) := by
  intro H enc W held fuel cs x hx
  obtain ⟨a, hK, hw⟩ := h H enc W held fuel cs x hx
  refine ⟨g a, ?_, by show wf (f (g a)); rw [hg]; exact hw⟩
  show d.K W (f (g a)) cs
  rw [hg]; exact hK

/-- An argument that is a struct. -/
theorem Opens.agg {α : Type} {P : Program} {t : TypeId} {d : Kd α} {wf : α → Prop} {fs : Array Field} (h : Opens P t d wf) (hs : P.underlying t = some (.struct fs)) {H : Type} {enc : TypeId × Value → H} {W : World} {r : Reach} {b0 : Nat} {v : Value} {dd : DataW H} {ps : List MemPlace}
    (hv : Value.okWide P W r b0 t v) (ht : DataW.Trod enc P W 0 (fun _ => true) true t v dd ps) : ∃ (a : α) (cs : List Value), v = .agg cs.toArray ∧ d.K W a cs ∧ wf a := by
  obtain ⟨cs, rfl, _⟩ := okWide_struct hs hv
  obtain ⟨fuel, hf⟩ := ht
  obtain ⟨a, hK, hw⟩ := h H enc W true fuel _ _ hf
  exact ⟨a, _, by simp [Value.cells], hK, hw⟩
/-- An argument that is a slice. -/
theorem Opens.arg {α : Type} {P : Program} {t e : TypeId} {d : Kd α} {wf : List α → Prop} (h : Opens P t (Kd.slice e d) wf) (ht : P.underlying t = some (.slice e)) {H : Type} {enc : TypeId × Value → H} {W : World} {r : Reach} {b0 : Nat} {v : Value} {dd : DataW H} {ps : List MemPlace}
    (hv : Value.okWide P W r b0 t v) (hT : DataW.Trod enc P W 0 (fun _ => true) true t v dd ps) : ∃ (l : List α) (A : Option Addr) (c : Nat), v = .slice A l.length c ∧ l.length ≤ c ∧ d.C W A l.length l ∧ wf l := by
  obtain ⟨a, len, cap, rfl⟩ := okWide_slice ht hv
  obtain ⟨fuel, hf⟩ := hT
  obtain ⟨l, ⟨A, c, he, hl, hC⟩, hw⟩ := h H enc W true fuel _ _ hf
  have he2 : [Value.slice a len cap] = [Value.slice A l.length c] := by simpa [Value.cells] using he
  injection he2 with he2 _
  exact ⟨l, A, c, he2, hl, hC, hw⟩

end Go.Proofs.Ytpcchfklmcalaaa.X
