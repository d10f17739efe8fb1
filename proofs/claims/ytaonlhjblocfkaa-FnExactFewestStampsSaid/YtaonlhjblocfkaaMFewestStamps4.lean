/- The Go functions that the law FnExactFewestStamps comes to, as plain Lean functions, the proofs that calls of them return what those tell, and the plain lemmas on them; no condition but those that each theorem states. -/
import Derived.Test.YtaonlhjblocfkaaMFewestStamps2
namespace Go.Proofs.Ytaonlhjblocfkaa.P
open Go.RowKit Go.Proofs.YtaonlhjblocfkaaW.PrintWords Go.Proofs.YtaonlhjblocfkaaW.PrintLast Go.Proofs.YtaonlhjblocfkaaW.PrintMore
attribute [local go_sem] max2_int min2_int max_two min_two max_three min_three max_four min_four
set_option linter.unusedVariables false
set_option linter.unusedSimpArgs false
mutual
def impl_purse_table.l0 : Nat → Int → List (List (S68)) → Int → List Int → List Int → Option ((List (List (S68))))
  | 0, _, _, _, _, _ => none
  | k + 1, x1, x5, x6, x264000, x264001 => if x6 ≥ 0 then (if 0 ≤ (wrap64 (x1 + 1)) then (if (wrap64 (x1 + 1) : Int).toNat ≤ 17592186044416 then (if 0 ≤ x6 then (if x6 < (x5.length : Int) then ((some (x5.set (x6 : Int).toNat (List.replicate (wrap64 (x1 + 1) : Int).toNat z68) : List (List (S68)))).bind fun y270 => (if x6 = (x264000.length : Int) then (if 0 < ((rd_L7 y270 x6).length : Int) then (impl_purse_table.l0 k x1 (y270.set (x6 : Int).toNat ((rd_L7 y270 x6).set (0 : Int).toNat (⟨1, 0⟩ : S68))) (wrap64 (x6 - 1)) x264000 x264001) else (none)) else (impl_purse_table.l1 k x1 y270 x6 (wrap64 (x1 + 1)) 0 x264000 x264001))) else (none)) else (none)) else (none)) else (none)) else (some x5)
def impl_purse_table.l1 : Nat → Int → List (List (S68)) → Int → Int → Int → List Int → List Int → Option ((List (List (S68))))
  | 0, _, _, _, _, _, _, _ => none
  | k + 1, x1, x5, x6, x41, x42, x264000, x264001 => if x42 < x41 then (impl_purse_table.l2 k x1 x5 x6 x42 0 x41 x42 x264000 x264001) else (impl_purse_table.l0 k x1 x5 (wrap64 (x6 - 1)) x264000 x264001)
def impl_purse_table.l2 : Nat → Int → List (List (S68)) → Int → Int → Int → Int → Int → List Int → List Int → Option ((List (List (S68))))
  | 0, _, _, _, _, _, _, _, _, _ => none
  | k + 1, x1, x5, x6, x7, x8, x41, x42, x264000, x264001 => if 0 ≤ x6 then (if x6 < (x264001.length : Int) then (if x8 ≤ (rd x264001 x6) then (if x6 < (x264000.length : Int) then (impl_purse_table.j3 k x1 x5 x6 x7 x8 x41 x42 (decide ((wrap64 (x8 * (rd x264000 x6))) ≤ x7)) x264000 x264001) else (none)) else (impl_purse_table.j3 k x1 x5 x6 x7 x8 x41 x42 false x264000 x264001)) else (none)) else (none)
def impl_purse_table.j3 : Nat → Int → List (List (S68)) → Int → Int → Int → Int → Int → Bool → List Int → List Int → Option ((List (List (S68))))
  | 0, _, _, _, _, _, _, _, _, _, _ => none
  | k + 1, x1, x5, x6, x7, x8, x41, x42, x62, x264000, x264001 => if x62 = true then (if 0 ≤ (wrap64 (x6 + 1)) then (if (wrap64 (x6 + 1)) < (x5.length : Int) then (if 0 ≤ x6 then (if x6 < (x264000.length : Int) then (if 0 ≤ (wrap64 (x7 - (wrap64 (x8 * (rd x264000 x6))))) then (if (wrap64 (x7 - (wrap64 (x8 * (rd x264000 x6))))) < ((rd_L7 x5 (wrap64 (x6 + 1))).length : Int) then (if ((rd_T68 (rd_L7 x5 (wrap64 (x6 + 1))) (wrap64 (x7 - (wrap64 (x8 * (rd x264000 x6)))))).f0) = 0 then (impl_purse_table.l2 k x1 x5 x6 x7 (wrap64 (x8 + 1)) x41 x42 x264000 x264001) else (if x6 < (x5.length : Int) then (if 0 ≤ x7 then (if x7 < ((rd_L7 x5 x6).length : Int) then (if ((rd_T68 (rd_L7 x5 x6) x7).f0) = 0 then (impl_purse_table.j4 k x1 x5 x6 x7 x8 x41 x42 true x264000 x264001 ((rd_T68 (rd_L7 x5 (wrap64 (x6 + 1))) (wrap64 (x7 - (wrap64 (x8 * (rd x264000 x6)))))).f0) ((rd_T68 (rd_L7 x5 (wrap64 (x6 + 1))) (wrap64 (x7 - (wrap64 (x8 * (rd x264000 x6)))))).f1)) else (impl_purse_table.j4 k x1 x5 x6 x7 x8 x41 x42 (decide ((wrap64 (((rd_T68 (rd_L7 x5 (wrap64 (x6 + 1))) (wrap64 (x7 - (wrap64 (x8 * (rd x264000 x6)))))).f1) + x8)) < ((rd_T68 (rd_L7 x5 x6) x7).f1))) x264000 x264001 ((rd_T68 (rd_L7 x5 (wrap64 (x6 + 1))) (wrap64 (x7 - (wrap64 (x8 * (rd x264000 x6)))))).f0) ((rd_T68 (rd_L7 x5 (wrap64 (x6 + 1))) (wrap64 (x7 - (wrap64 (x8 * (rd x264000 x6)))))).f1))) else (none)) else (none)) else (none))) else (none)) else (none)) else (none)) else (none)) else (none)) else (none)) else (impl_purse_table.l1 k x1 x5 x6 x41 (wrap64 (x42 + 1)) x264000 x264001)
def impl_purse_table.j4 : Nat → Int → List (List (S68)) → Int → Int → Int → Int → Int → Bool → List Int → List Int → Int → Int → Option ((List (List (S68))))
  | 0, _, _, _, _, _, _, _, _, _, _, _, _ => none
  | k + 1, x1, x5, x6, x7, x8, x41, x42, x102, x264000, x264001, x281000, x281001 => if x102 = true then (if 0 ≤ x6 then (if x6 < (x5.length : Int) then (if 0 ≤ x7 then (if x7 < ((rd_L7 x5 x6).length : Int) then ((some (x5.set (x6 : Int).toNat ((rd_L7 x5 x6).set (x7 : Int).toNat (⟨(rd_T68 (rd_L7 x5 x6) x7).f0, wrap64 (x281001 + x8)⟩ : S68)) : List (List (S68)))).bind fun y287 => (if x7 < ((rd_L7 y287 x6).length : Int) then (impl_purse_table.l2 k x1 (y287.set (x6 : Int).toNat ((rd_L7 y287 x6).set (x7 : Int).toNat (⟨wrap64 (((rd_T68 (rd_L7 y287 x6) x7).f0) + x281000), (rd_T68 (rd_L7 y287 x6) x7).f1⟩ : S68))) x6 x7 (wrap64 (x8 + 1)) x41 x42 x264000 x264001) else (none))) else (none)) else (none)) else (none)) else (none)) else (if 0 ≤ x6 then (if x6 < (x5.length : Int) then (if 0 ≤ x7 then (if x7 < ((rd_L7 x5 x6).length : Int) then (impl_purse_table.l2 k x1 (x5.set (x6 : Int).toNat ((rd_L7 x5 x6).set (x7 : Int).toNat (⟨wrap64 (((rd_T68 (rd_L7 x5 x6) x7).f0) + x281000), (rd_T68 (rd_L7 x5 x6) x7).f1⟩ : S68))) x6 x7 (wrap64 (x8 + 1)) x41 x42 x264000 x264001) else (none)) else (none)) else (none)) else (none))
end
def impl_purse_table.f (k : Nat) (l0_0 : List Int) (l0_1 : List Int) (a1 : Int) : Option ((List (List (S68)))) := if 0 ≤ (wrap64 ((l0_0.length : Int) + 1)) then (if (wrap64 ((l0_0.length : Int) + 1) : Int).toNat ≤ 11728124029610 then (impl_purse_table.l0 k a1 (List.replicate (wrap64 ((l0_0.length : Int) + 1) : Int).toNat []) (l0_0.length : Int) l0_0 l0_1) else (none)) else (none)
def impl_purse_table.T14 : Bool × List (List Nat × List Nat) := (true, [([], []), ([], []), ([1], [1]), ([0, 2], [0, 2]), ([3], [3]), ([], []), ([], []), ([], []), ([7], [7]), ([], []), ([8, 9], [8, 9]), ([10], [10]), ([6, 11], [6, 11]), ([5, 12], [5, 12]), ([4, 13], [4, 13]), ([14], [14]), ([], []), ([16, 15, 0, 1, 2, 3, 4, 5, 6, 7, 8, 9, 10, 11, 12, 13, 14, 15, 16], [15, 16])])
def impl_purse_table.B14 : List Nat := [0, 0, 2, 7, 15, 0, 0, 0, 128, 0, 896, 1920, 4032, 8160, 16383, 32767, 0, 131071]
theorem impl_purse_table.tab14 : rtab .any (opsOf Try.f73 14) = impl_purse_table.T14 := by kernel_rfl
theorem impl_purse_table.bits14 : waitsOk impl_purse_table.T14.2 impl_purse_table.B14 = true := by kernel_rfl
def impl_purse_table.T18 : Bool × List (List Nat × List Nat) := (true, [([], []), ([], []), ([0, 1], [0, 1]), ([2], [2]), ([], []), ([], []), ([5], [5]), ([], []), ([6, 7], [6, 7]), ([3, 4, 0, 1, 2, 3, 4, 5, 6, 7, 8], [3, 4]), ([9, 0, 1, 2, 3, 4, 5, 6, 7, 8], [9]), ([10, 8, 0, 1, 2, 3, 4, 5, 6, 7, 8], [8, 10])])
def impl_purse_table.B18 : List Nat := [0, 0, 3, 7, 0, 0, 32, 0, 224, 511, 1023, 2047]
theorem impl_purse_table.tab18 : rtab .any (opsOf Try.f73 18) = impl_purse_table.T18 := by kernel_rfl
theorem impl_purse_table.bits18 : waitsOk impl_purse_table.T18.2 impl_purse_table.B18 = true := by kernel_rfl
def impl_purse_table.T19 : Bool × List (List Nat × List Nat) := (true, [([], []), ([], []), ([0, 1], [0, 1]), ([2], [2]), ([], []), ([3, 4], [3, 4]), ([5], [5]), ([6], [6]), ([], []), ([8], [8]), ([7, 9], [7, 9]), ([3, 4, 0, 1, 2, 3, 4, 5, 6, 7, 8, 9, 10], [3, 4]), ([11, 0, 1, 2, 3, 4, 5, 6, 7, 8, 9, 10], [11]), ([12, 10, 0, 1, 2, 3, 4, 5, 6, 7, 8, 9, 10], [10, 12])])
def impl_purse_table.B19 : List Nat := [0, 0, 3, 7, 0, 31, 63, 127, 0, 256, 1023, 2047, 4095, 8191]
theorem impl_purse_table.tab19 : rtab .any (opsOf Try.f73 19) = impl_purse_table.T19 := by kernel_rfl
theorem impl_purse_table.bits19 : waitsOk impl_purse_table.T19.2 impl_purse_table.B19 = true := by kernel_rfl
set_option maxHeartbeats 8000000 in
set_option maxRecDepth 100000 in
theorem impl_purse_table.calls (k : Nat) (A0_0 : Option Addr) (c0_0 : Nat) (l0_0 : List Int) (A0_1 : Option Addr) (c0_1 : Nat) (l0_1 : List Int) (a1 : Int) (r : List (List (S68))) (w : World) (hr0_0 : Kd.C (Kd.int .i64) w A0_0 l0_0.length l0_0) (hc0_0 : l0_0.length ≤ c0_0) (hr0_1 : Kd.C (Kd.int .i64) w A0_1 l0_1.length l0_1) (hc0_1 : l0_1.length ≤ c0_1) (h : impl_purse_table.f k l0_0 l0_1 a1 = some r) :
    Calls Try.prog 73 #[.agg #[.slice A0_0 l0_0.length c0_0, .slice A0_1 l0_1.length c0_1], .int .i64 a1] w fun e w' => ∃ v0_ : Value, e = .returned (v0_) ∧ Kd.S (Kd.slice 68 k68) 69 w' w.heap.size (fun _ => True) v0_ r ∧ Below w.heap.size w w' := by
  have hu55 := Try.underlying55
  have hu68 := Try.underlying68
  have HR0_0 := Aside0.mk hr0_0
  have HC0_0 := Aside0.mk hc0_0
  clear hr0_0 hc0_0
  have HR0_1 := Aside0.mk hr0_1
  have HC0_1 := Aside0.mk hc0_1
  clear hr0_1 hc0_1
  have HB := Aside0.mk (Below.refl w.heap.size w)
  have H : (if 0 ≤ (wrap64 ((l0_0.length : Int) + 1)) then (if (wrap64 ((l0_0.length : Int) + 1) : Int).toNat ≤ 11728124029610 then (impl_purse_table.l0 k a1 (List.replicate (wrap64 ((l0_0.length : Int) + 1) : Int).toNat []) (l0_0.length : Int) l0_0 l0_1) else (none)) else (none)) = some r := h
  clear h
  obtain ⟨ji3, hji3⟩ : ∃ j_ : Int, (wrap64 ((l0_0.length : Int) + 1)) = j_ := ⟨_, rfl⟩
  replace H : (if 0 ≤ (ji3) then (if (ji3 : Int).toNat ≤ 11728124029610 then (impl_purse_table.l0 k a1 (List.replicate (ji3 : Int).toNat []) (l0_0.length : Int) l0_0 l0_1) else (none)) else (none)) = some r := by first | (rw [hji3] at H; exact H) | (simp only [hji3] at H ⊢; exact H)
  have hji3w : (IntKind.i64.wrap ((l0_0.length : Int) + 1)) = ji3 := (i64_w _).trans hji3
  by_cases c4 : 0 ≤ (ji3)
  rotate_left
  · rw [if_neg c4] at H
    exact absurd H (by simp)
  rw [if_pos c4] at H
  have c4b0 := eq_true c4
  have c4b1 : decide (0 ≤ (ji3)) = true := decide_eq_true c4
  clear c4
  by_cases c5 : (ji3 : Int).toNat ≤ 11728124029610
  rotate_left
  · rw [if_neg c5] at H
    exact absurd H (by simp)
  rw [if_pos c5] at H
  have c5b0 := eq_true c5
  have c5b1 : decide ((ji3 : Int).toNat ≤ 11728124029610) = true := decide_eq_true c5
  clear c5
  obtain ⟨y264, hy264⟩ : ∃ y_ : List (List (S68)), y_ = (List.replicate (ji3 : Int).toNat []) := ⟨_, rfl⟩
  replace H : (impl_purse_table.l0 k a1 y264 (l0_0.length : Int) l0_0 l0_1) = some r := by first | (rw [hy264]; with_reducible exact H) | (have H2_ := (Option.bind_some _ _).symm.trans H; rw [hy264]; with_reducible exact H2_) | (have H2_ := (Option.bind_some _ _).symm.trans H; with_reducible exact H2_) | with_reducible exact H | (rw [hy264]; exact H) | exact H
  have Ny264 := Aside0.mk hy264
  clear hy264
  have H' := Aside0.mk H
  clear H
  go_enter Try.func73, Try.ntmps73
  go_wp2_with (first | ((with_reducible refine gate_dst (N := 2) rfl ?_); refine box_event ?hg (N := 2) ?hd (cs := #[.slice A0_0 l0_0.length c0_0, .slice A0_1 l0_1.length c0_1]) (t := 55) ?hr ?_; (case hd => rfl); (case hg => rfl); (case hr => first | (go_simp; done) | (go_simp; rfl)); intro gb263 hg w6 hbox hb; have n0_ := Aside0.mk (below_step (by repeat (first | (with_reducible first | exact HB.out | apply below_alloc | apply pw_below_drewN | apply below_drew1) | exact HB.out)) hb); have n1_ := Aside0.mk (hbox); have n2_ := Aside0.mk ((by rw [hg]; exact (below_size (by repeat (first | (with_reducible first | exact HB.out | apply below_alloc | apply pw_below_drewN | apply below_drew1) | exact HB.out))) : w.heap.size ≤ gb263)); have n3_ := Aside0.mk ((by rw [hg]; exact (below_size (by repeat (first | (with_reducible first | exact HB.out | apply below_alloc | apply pw_below_drewN | apply below_drew1) | exact HB.out))) : w.heap.size ≤ gb263)); clear HB; have HB := n0_; have BK263 := n1_; have GW263 := n2_; have GE263 := n3_; clear n0_ n1_ n2_ n3_; clear hb hbox hg; have hcz7_0 : w6.cell? ⟨gb263, 0, none⟩ = some (.slice A0_0 l0_0.length c0_0) := (blk_cell BK263.out 0).trans rfl; have hcz7_1 : w6.cell? ⟨gb263, 1, none⟩ = some (.slice A0_1 l0_1.length c0_1) := (blk_cell BK263.out 1).trans rfl; have hfz7_0 := blk_frozen BK263.out 0; have hfz7_1 := blk_frozen BK263.out 1) | ((with_reducible refine gate_dst (N := 15) rfl ?_); refine Kd.S_make (Kd.slice 68 k68) _ 69 rfl (N := 15) rfl 65 _ _ rfl ji3 rfl rfl Try.underlying65 (.slice none 0 0) 24 info69 rfl (by decide) (by omega) [] (ok := fun _ => True) (okp := fun _ => True) ⟨_, rfl, Kd.R_nil _ _ _ _ _⟩ (fun _ hk => hk) trivial (of_decide_eq_true (by first | (with_reducible assumption) | assumption)) (Nat.le_trans (Nat.mul_le_mul_right _ (of_decide_eq_true (by first | (with_reducible assumption) | assumption) : ji3.toNat ≤ 11728124029610)) (by omega)) (Below.refl _ _) (Nat.le_refl _) ?_; intro v265 w8 ho9 hb hg_ hnew_; clear hg_ hnew_; (first | rw [← Ny264.out] at ho9 | (simp only [Int.reduceToNat] at ho9; rw [← Ny264.out] at ho9)); have n0_ := Aside0.mk (Kd.S_lower ho9 (below_size (by repeat (first | (with_reducible first | exact HB.out | apply below_alloc | apply pw_below_drewN | apply below_drew1 | refine below_set ?_ GE263.out) | exact HB.out)))); have n1_ := Aside0.mk (blk_below (g := gb263) (o := .cells #[.slice A0_0 l0_0.length c0_0, .slice A0_1 l0_1.length c0_1] 55 (0, 0)) (by (with_reducible repeat (first | refine blk_drewN ?_ _ | refine blk_drew ?_ | refine blk_alloc ?_ _)); exact BK263.out) hb); have n2_ := Aside0.mk (below_step (by repeat (first | (with_reducible first | exact HB.out | apply below_alloc | apply pw_below_drewN | apply below_drew1 | refine below_set ?_ GE263.out) | exact HB.out)) hb); clear BK263; clear HB; have HO266 := n0_; have BK263 := n1_; have HB := n2_; clear n0_ n1_ n2_; clear hb ho9; have hcz10_0 : w8.cell? ⟨gb263, 0, none⟩ = some (.slice A0_0 l0_0.length c0_0) := (blk_cell BK263.out 0).trans rfl; have hcz10_1 : w8.cell? ⟨gb263, 1, none⟩ = some (.slice A0_1 l0_1.length c0_1) := (blk_cell BK263.out 1).trans rfl; have hfz10_0 := blk_frozen BK263.out 0; have hfz10_1 := blk_frozen BK263.out 1))
  go_loopg [6] k (fun kq v6 w' => ∃ (x5_1 : List (List (S68))) (x6_1 : Int), v6 = .int .i64 x6_1 ∧ Aside0 (impl_purse_table.l0 kq a1 x5_1 x6_1 l0_0 l0_1 = some r) ∧ Aside0 (kq ≤ k) ∧ Aside0 (Kd.S (Kd.slice 68 k68) 69 w' w.heap.size (fun _ => True) v265 x5_1) ∧ Aside0 (w'.heap[gb263]? = some (.cells #[(.slice A0_0 l0_0.length c0_0), (.slice A0_1 l0_1.length c0_1)] 55 (0, 0))) ∧ Aside0 (Below w.heap.size w w'))
  case atStart => exact ⟨(y264), ((l0_0.length : Int)), (by first | rfl | (simp; done) | (simp [*]; done)), H', ⟨Nat.le_refl _⟩, ⟨by (with_reducible repeat (first | apply Kd.S_alloc | apply Kd.S_drewN | apply Kd.S_drew)); exact HO266.out⟩, ⟨by (with_reducible repeat (first | refine blk_drewN ?_ _ | refine blk_drew ?_ | refine blk_alloc ?_ _)); exact BK263.out⟩, ⟨by repeat (first | (with_reducible first | exact HB.out | apply below_alloc | apply pw_below_drewN | apply below_drew1 | refine below_set ?_ GE263.out) | exact HB.out)⟩⟩
  case round =>
    clear H'
    try clear p2
    try clear c4
    try clear c4b0
    try clear c4b1
    try clear c5
    try clear c5b0
    try clear c5b1
    try clear p6
    try clear c7
    try clear hcz10_0
    try clear hcz10_1
    try clear hcz7_0
    try clear hcz7_1
    try clear hfz10_0
    try clear hfz10_1
    try clear hfz7_0
    try clear hfz7_1
    obtain ⟨x5_1, x6_1, rfl, HA, HK1, HO_5, BK263, HB⟩ := hrel
    cases gk with
    | zero => exact absurd HA.out (by simp [impl_purse_table.l0])
    | succ k1 =>
      have H := HA.out
      clear HA
      simp only [impl_purse_table.l0] at H
      by_cases c11 : x6_1 ≥ 0
      rotate_left
      · rw [if_neg c11] at H
        have c11b0 : decide (0 ≤ x6_1) = false := decide_eq_false c11
        clear c11
        obtain rfl := Option.some.inj H
        go_wp2
        go_ret
        exact ⟨_, by first | rfl | (simp [errW_none, errW_some] <;> rfl) | (simp only [← hji3]; first | rfl | (simp [errW_none, errW_some] <;> rfl)) | (simp [*, errW_none, errW_some] <;> rfl), by (with_reducible repeat (first | apply Kd.S_alloc | apply Kd.S_drewN | apply Kd.S_drew)); exact HO_5.out, by repeat (first | (with_reducible first | exact HB.out | apply below_alloc | apply pw_below_drewN | apply below_drew1 | refine below_set ?_ GE263.out) | exact HB.out)⟩
      rw [if_pos c11] at H
      have c11b0 : decide (0 ≤ x6_1) = true := decide_eq_true c11
      clear c11
      obtain ⟨ji12, hji12⟩ : ∃ j_ : Int, (wrap64 (a1 + 1)) = j_ := ⟨_, rfl⟩
      replace H : (if 0 ≤ (ji12) then (if (ji12 : Int).toNat ≤ 17592186044416 then (if 0 ≤ x6_1 then (if x6_1 < (x5_1.length : Int) then ((some (x5_1.set (x6_1 : Int).toNat (List.replicate (ji12 : Int).toNat z68) : List (List (S68)))).bind fun y270 => (if x6_1 = (l0_0.length : Int) then (if 0 < ((rd_L7 y270 x6_1).length : Int) then (impl_purse_table.l0 k1 a1 (y270.set (x6_1 : Int).toNat ((rd_L7 y270 x6_1).set (0 : Int).toNat (⟨1, 0⟩ : S68))) (wrap64 (x6_1 - 1)) l0_0 l0_1) else (none)) else (impl_purse_table.l1 k1 a1 y270 x6_1 ji12 0 l0_0 l0_1))) else (none)) else (none)) else (none)) else (none)) = some r := by first | (rw [hji12] at H; exact H) | (simp only [hji12] at H ⊢; exact H)
      have hji12w : (IntKind.i64.wrap (a1 + 1)) = ji12 := (i64_w _).trans hji12
      by_cases c13 : 0 ≤ (ji12)
      rotate_left
      · rw [if_neg c13] at H
        exact absurd H (by simp)
      rw [if_pos c13] at H
      have c13b0 := eq_true c13
      have c13b1 : decide (0 ≤ (ji12)) = true := decide_eq_true c13
      clear c13
      by_cases c14 : (ji12 : Int).toNat ≤ 17592186044416
      rotate_left
      · rw [if_neg c14] at H
        exact absurd H (by simp)
      rw [if_pos c14] at H
      have c14b0 := eq_true c14
      have c14b1 : decide ((ji12 : Int).toNat ≤ 17592186044416) = true := decide_eq_true c14
      clear c14
      obtain ⟨y267, hy267⟩ : ∃ y_ : List (S68), y_ = (List.replicate (ji12 : Int).toNat z68) := ⟨_, rfl⟩
      replace H : (if 0 ≤ x6_1 then (if x6_1 < (x5_1.length : Int) then ((some (x5_1.set (x6_1 : Int).toNat y267 : List (List (S68)))).bind fun y270 => (if x6_1 = (l0_0.length : Int) then (if 0 < ((rd_L7 y270 x6_1).length : Int) then (impl_purse_table.l0 k1 a1 (y270.set (x6_1 : Int).toNat ((rd_L7 y270 x6_1).set (0 : Int).toNat (⟨1, 0⟩ : S68))) (wrap64 (x6_1 - 1)) l0_0 l0_1) else (none)) else (impl_purse_table.l1 k1 a1 y270 x6_1 ji12 0 l0_0 l0_1))) else (none)) else (none)) = some r := by first | (rw [hy267]; with_reducible exact H) | (have H2_ := (Option.bind_some _ _).symm.trans H; rw [hy267]; with_reducible exact H2_) | (have H2_ := (Option.bind_some _ _).symm.trans H; with_reducible exact H2_) | with_reducible exact H | (rw [hy267]; exact H) | exact H
      have Ny267 := Aside0.mk hy267
      clear hy267
      by_cases c15 : 0 ≤ x6_1
      rotate_left
      · rw [if_neg c15] at H
        exact absurd H (by simp)
      rw [if_pos c15] at H
      have c15b0 : decide (0 ≤ x6_1) = true := decide_eq_true c15
      clear c15
      by_cases c16 : x6_1 < (x5_1.length : Int)
      rotate_left
      · rw [if_neg c16] at H
        exact absurd H (by simp)
      rw [if_pos c16] at H
      have c16b0 : decide (x6_1 < (x5_1.length : Int)) = true := decide_eq_true c16
      clear c16
      obtain ⟨y270, hy270⟩ : ∃ y_ : List (List (S68)), y_ = (x5_1.set (x6_1 : Int).toNat y267) := ⟨_, rfl⟩
      replace H : (if x6_1 = (l0_0.length : Int) then (if 0 < ((rd_L7 y270 x6_1).length : Int) then (impl_purse_table.l0 k1 a1 (y270.set (x6_1 : Int).toNat ((rd_L7 y270 x6_1).set (0 : Int).toNat (⟨1, 0⟩ : S68))) (wrap64 (x6_1 - 1)) l0_0 l0_1) else (none)) else (impl_purse_table.l1 k1 a1 y270 x6_1 ji12 0 l0_0 l0_1)) = some r := by first | (rw [hy270]; with_reducible exact H) | (have H2_ := (Option.bind_some _ _).symm.trans H; rw [hy270]; with_reducible exact H2_) | (have H2_ := (Option.bind_some _ _).symm.trans H; with_reducible exact H2_) | with_reducible exact H | (rw [hy270]; exact H) | exact H
      have Ny270 := Aside0.mk hy270
      clear hy270
      by_cases c18 : x6_1 = (l0_0.length : Int)
      rotate_left
      · rw [if_neg c18] at H
        have c18b0 : (x6_1 == (l0_0.length : Int)) = false := beq_eq_false_iff_ne.mpr c18
        have c18b1 : (x6_1 != (l0_0.length : Int)) = true := bne_iff_ne.mpr c18
        have H' := Aside0.mk H
        clear H
        go_wp2_with (first | ((with_reducible refine gate_dst (N := 27) rfl ?_); refine Kd.R_make k68 _ 68 rfl (N := 27) rfl 69 _ _ rfl ji12 rfl rfl Try.underlying69 (.agg #[(.int .i64 0), (.int .i64 0)]) 16 info68 rfl (by decide) (by omega) z68 (ok := fun _ => True) (okp := fun _ => True) (k68_mkM _ _ _ z68 ) (fun _ hk => hk) trivial (of_decide_eq_true (by first | (with_reducible assumption) | assumption)) (Nat.le_trans (Nat.mul_le_mul_right _ (of_decide_eq_true (by first | (with_reducible assumption) | assumption) : ji12.toNat ≤ 17592186044416)) (by omega)) (Below.refl _ _) (Nat.le_refl _) ?_; intro v268 w28 ho29 hb hg_ hnew_; clear hg_ hnew_; (first | rw [← Ny267.out] at ho29 | (simp only [Int.reduceToNat] at ho29; rw [← Ny267.out] at ho29)); have n0_ := Aside0.mk (Kd.S_elder' (by (with_reducible repeat (first | apply Kd.S_alloc | apply Kd.S_drewN | apply Kd.S_drew)); exact HO_5.out) (Kd.R_base ho29) hb); have n1_ := Aside0.mk (Kd.R_lower ho29 (below_size (by repeat (first | (with_reducible first | exact HB.out | apply below_alloc | apply pw_below_drewN | apply below_drew1 | refine below_set ?_ GE263.out) | exact HB.out)))); have n2_ := Aside0.mk (blk_below (g := gb263) (o := .cells #[.slice A0_0 l0_0.length c0_0, .slice A0_1 l0_1.length c0_1] 55 (0, 0)) (by (with_reducible repeat (first | refine blk_drewN ?_ _ | refine blk_drew ?_ | refine blk_alloc ?_ _)); exact BK263.out) hb); have n3_ := Aside0.mk (below_step (by repeat (first | (with_reducible first | exact HB.out | apply below_alloc | apply pw_below_drewN | apply below_drew1 | refine below_set ?_ GE263.out) | exact HB.out)) hb); clear HO_5; clear BK263; clear HB; have HO_5 := n0_; have HO269 := n1_; have BK263 := n2_; have HB := n3_; clear n0_ n1_ n2_ n3_; clear hb ho29; have p17 : 0 ≤ (x6_1 : Int) := of_decide_eq_true (by first | (with_reducible assumption) | assumption); have q17 : (x6_1 : Int) < ((x5_1.length : Int) : Int) := of_decide_eq_true (by first | (with_reducible assumption) | assumption); obtain ⟨go17, co17, eo17, gb17, gl17, cl17, HG17⟩ := Kd.S_form HO_5.out (by omega); (first | cases eo17 | (injection eo17 with ea_ en_ ec_; (first | subst ea_ | (injection ea_ with ea_; subst ea_)); subst ec_; clear en_)); have GB17 := Aside0.mk gb17; have GG17 := Aside0.mk HG17; clear gb17 gl17 HG17; obtain ⟨_, ce17, hcl17, hM17, hcc17, hfr17, _, _⟩ := Kd.S_elem HO_5.out [] (x6_1 : Int) p17 q17; obtain ⟨ve17_0, rfl, ge17_0⟩ := id hM17; have hx17_0 := hcc17 0 _ rfl; have hf17_0 := hfr17 0; (try simp only [show ((Kd.slice 68 k68)).sz = 1 from rfl, Nat.mul_one, Nat.add_zero] at hx17_0); (try simp only [show ((Kd.slice 68 k68)).sz = 1 from rfl, Nat.mul_one, Nat.add_zero] at hf17_0); clear hcl17 hcc17 hfr17 hM17; replace p17 := eq_true p17; replace q17 := eq_true q17; have n_ := Aside0.mk (Kd.S_mono (ok' := (fun k_ => some k_ ≠ (v268 : Value).ownBlock)) HO_5.out (fun k_ hk => hk.2)); clear HO_5; have HO_5 := n_; clear n_; have HX30 := Aside0.mk (show Kd.S (Kd.slice 68 k68) 69 w28 w.heap.size (fun k_ => ((fun _ => True)) k_ ∧ ¬ ((fun k_ => some k_ = (v268 : Value).ownBlock)) k_) (.slice (some ⟨go17, 0, none⟩) x5_1.length co17) x5_1 from (by (with_reducible repeat (first | apply Kd.S_alloc | apply Kd.S_drewN | apply Kd.S_drew)); exact Kd.S_mono HO_5.out (fun k_ hk => ⟨trivial, fun e_ => hk e_⟩))); obtain ⟨oki30, ce30, hcl30, hM30, hcc30, hfr30, hoki30, hH30⟩ := Kd.S_elem HX30.out [] (x6_1 : Int) (of_decide_eq_true (by first | (with_reducible assumption) | assumption)) (by have h_ : (x6_1 : Int) < ((x5_1.length : Int) : Int) := of_decide_eq_true (by first | (with_reducible assumption) | assumption); first | exact h_ | (have e_ := (Kd.S_reads' HO_5.out).1; omega) | simpa using h_); obtain ⟨ve30_0, rfl, ge30_0⟩ := id hM30; have HP30 := Kd.S_seg hH30 (of_decide_eq_true (by first | (with_reducible assumption) | assumption)) (by have h_ : (x6_1 : Int) < ((x5_1.length : Int) : Int) := of_decide_eq_true (by first | (with_reducible assumption) | assumption); first | exact h_ | (have e_ := (Kd.S_reads' HO_5.out).1; omega) | simpa using h_) (seg := [v268]) (j := 0) (show 1 ≤ 1 from by decide) (x' := y267) (Kd.M_row (Kd.R_mono (Kd.R_tight rfl (Kd.R_mono (ok' := fun k_ => ((fun _ => True)) k_ ∧ k_ ≠ go17) (Kd.R_apart' (HO269.out) (Kd.S_typed HO_5.out) (by decide)) (fun k_ hk => ⟨trivial, fun e_ => (hk.2) (by rw [e_]; rfl)⟩))) (fun _ h_ => Or.inr (h_)))) (fun _ hk => hk) (fun k_ hk_ => ((Kd.R_mono (ok' := fun k_ => ((fun _ => True)) k_ ∧ k_ ≠ go17) (Kd.R_apart' (HO269.out) (Kd.S_typed HO_5.out) (by decide)) (fun k_ hk => ⟨trivial, fun e_ => (hk.2) (by rw [e_]; rfl)⟩))).1 k_ hk_.symm); have hx30_0 := hcc30 0 _ rfl; (try simp only [show ((Kd.slice 68 k68)).sz = 1 from rfl, Nat.mul_one, Nat.add_zero] at hx30_0); have hf30_0 := hfr30 0; (try simp only [show ((Kd.slice 68 k68)).sz = 1 from rfl, Nat.mul_one, Nat.add_zero] at hf30_0); clear hcl30 hcc30 hfr30 hM30 hoki30 hH30; (try simp only [show ((Kd.slice 68 k68)).sz = 1 from rfl, Nat.mul_one, Nat.add_zero] at HP30)) | ((with_reducible refine gate_store (t := 69) (p := 28) rfl ?_); refine store_event (t := 69) (p := 28) (v := ?vo_w31) (w1 := (w28.setCell ⟨go17, (x6_1 : Int).toNat, none⟩ (v268))) ?hg ?ho ?hn ?hr ?_; (case ho => rfl); (case hg => rfl); (case hn => rfl); (case hr => first | (go_simp; done) | (go_simp; rfl) | (obtain ⟨Az_, cz_, ez_⟩ := Kd.R_slice HO269.out; rw [ez_]; first | (go_simp; done) | (go_simp; rfl)) | (obtain ⟨Az_, cz_, ez_⟩ := Kd.S_slice HO269.out; rw [ez_]; first | (go_simp; done) | (go_simp; rfl)) | (obtain ⟨Az_, cz_, ez_⟩ := Kd.N_slice HO269.out; rw [ez_]; first | (go_simp; done) | (go_simp; rfl)) | (obtain ⟨Az_, cz_, ez_⟩ := Kd.Q_slice HO269.out; rw [ez_]; first | (go_simp; done) | (go_simp; rfl)) | (obtain ⟨Az_, cz_, ez_⟩ := Kd.V_slice HO269.out; rw [ez_]; first | (go_simp; done) | (go_simp; rfl))); intro w31 hw; have hg : w28.grownBy w31 (some go17) := (by rw [hw]; exact HP30.2); have hp_ : Kd.S (Kd.slice 68 k68) 69 w31 w.heap.size (fun _ => True) (.slice (some ⟨go17, 0, none⟩) x5_1.length co17) y270 := (by rw [hw, Ny270.out]; exact HP30.1); clear HP30; have n0_ := Aside0.mk (hp_); have n1_ := Aside0.mk (blk_grown (g := gb263) (o := .cells #[.slice A0_0 l0_0.length c0_0, .slice A0_1 l0_1.length c0_1] 55 (0, 0)) (by (with_reducible repeat (first | refine blk_drewN ?_ _ | refine blk_drew ?_ | refine blk_alloc ?_ _)); exact BK263.out) hg (Kd.S_ne HO_5.out BK263.out (by decide))); have n2_ := Aside0.mk ((by rw [hw]; exact below_set (HB.out) GB17.out : Below w.heap.size w w31)); clear HO_5; clear BK263; clear HB; clear HO269; have HO_5 := n0_; have BK263 := n1_; have HB := n2_; clear n0_ n1_ n2_; clear hg hw hp_; have hcz32_0 : w31.cell? ⟨gb263, 0, none⟩ = some (.slice A0_0 l0_0.length c0_0) := (blk_cell BK263.out 0).trans rfl; have hcz32_1 : w31.cell? ⟨gb263, 1, none⟩ = some (.slice A0_1 l0_1.length c0_1) := (blk_cell BK263.out 1).trans rfl; have hfz32_0 := blk_frozen BK263.out 0; have hfz32_1 := blk_frozen BK263.out 1))
        go_loopg [42] k1 (fun kq v42 w' => ∃ (x5_2 : List (List (S68))) (x42_2 : Int), v42 = .int .i64 x42_2 ∧ Aside0 (impl_purse_table.l1 kq a1 x5_2 x6_1 ji12 x42_2 l0_0 l0_1 = some r) ∧ Aside0 (kq ≤ k1) ∧ Aside0 (Kd.S (Kd.slice 68 k68) 69 w' w.heap.size (fun _ => True) (.slice (some ⟨go17, 0, none⟩) x5_1.length co17) x5_2) ∧ Aside0 (w'.heap[gb263]? = some (.cells #[(.slice A0_0 l0_0.length c0_0), (.slice A0_1 l0_1.length c0_1)] 55 (0, 0))) ∧ Aside0 (Below w.heap.size w w'))
        case atStart => exact ⟨(y270), (0), (by first | rfl | (simp; done) | (simp [*]; done)), H', ⟨Nat.le_refl _⟩, ⟨by (with_reducible repeat (first | apply Kd.S_alloc | apply Kd.S_drewN | apply Kd.S_drew)); exact HO_5.out⟩, ⟨by (with_reducible repeat (first | refine blk_drewN ?_ _ | refine blk_drew ?_ | refine blk_alloc ?_ _)); exact BK263.out⟩, ⟨by repeat (first | (with_reducible first | exact HB.out | apply below_alloc | apply pw_below_drewN | apply below_drew1 | refine below_set ?_ GE263.out) | exact HB.out)⟩⟩
        case round =>
          clear H'
          try clear c1
          try clear p1
          try clear q1
          try clear hx1
          try clear c2
          try clear p2
          try clear q2
          try clear hx2
          try clear qi2
          try clear hf2
          try clear c3
          try clear hx3
          try clear hf3
          try clear c4
          try clear c4b0
          try clear c4b1
          try clear c5
          try clear c5b0
          try clear c5b1
          try clear p6
          try clear c7
          try clear c11
          try clear c11b0
          try clear c13
          try clear c13b0
          try clear c13b1
          try clear c14
          try clear c14b0
          try clear c14b1
          try clear c15
          try clear c15b0
          try clear c16
          try clear c16b0
          try clear c17
          try clear p17
          try clear q17
          try clear hx17
          try clear hf17
          try clear c18
          try clear c18b0
          try clear c18b1
          try clear c19
          try clear c19b0
          try clear c19b1
          try clear c20
          try clear p20
          try clear q20
          try clear hx20
          try clear qi20
          try clear hf20
          try clear c23
          try clear hx23
          try clear hf23
          try clear c26
          try clear q26
          try clear c27
          try clear p27
          try clear q27
          try clear hx27
          try clear c30
          try clear hx30
          try clear hf30
          try clear hcz10_0
          try clear hcz10_1
          try clear hcz25_0
          try clear hcz25_1
          try clear hcz32_0
          try clear hcz32_1
          try clear hcz7_0
          try clear hcz7_1
          try clear hfz10_0
          try clear hfz10_1
          try clear hfz25_0
          try clear hfz25_1
          try clear hfz32_0
          try clear hfz32_1
          try clear hfz7_0
          try clear hfz7_1
          try clear hx17_0
          try clear hx20_0
          try clear hx20_1
          try clear hx23_0
          try clear hx271_0
          try clear hx30_0
          try clear p17
          try clear p2
          try clear p20
          try clear p271
          try clear p6
          try clear q17
          try clear q20
          try clear q271
          obtain ⟨x5_2, x42_2, rfl, HA, HK2, HO_5, BK263, HB⟩ := hrel
          have hl5_2 := (Kd.S_reads' HO_5.out).1
          rw [hl5_2] at HO_5
          (try simp only [hl5_2])
          (try simp only [hl5_2] at BK263)
          cases gk with
          | zero => exact absurd HA.out (by simp [impl_purse_table.l1])
          | succ k2 =>
            have H := HA.out
            clear HA
            simp only [impl_purse_table.l1] at H
            by_cases c33 : x42_2 < ji12
            rotate_left
            · rw [if_neg c33] at H
              have c33b0 : decide (x42_2 < ji12) = false := decide_eq_false c33
              clear c33
              have H' := Aside0.mk H
              clear H
              go_wp2
              (try simp only [← hl5_2])
              go_roundg k2
              case measure => have := HK1.out; have := HK2.out; omega
              case rel => exact ⟨(x5_2), (wrap64 (x6_1 - 1)), (by first | rfl | (simp; done) | (simp [*]; done)), H', ⟨by have := HK1.out; have := HK2.out; omega⟩, ⟨by (try simp only [hl5_2]); (with_reducible repeat (first | apply Kd.S_alloc | apply Kd.S_drewN | apply Kd.S_drew)); exact HO_5.out⟩, ⟨by (try simp only [hl5_2]); (with_reducible repeat (first | refine blk_drewN ?_ _ | refine blk_drew ?_ | refine blk_alloc ?_ _)); exact BK263.out⟩, ⟨by repeat (first | (with_reducible first | exact HB.out | apply below_alloc | apply pw_below_drewN | apply below_drew1 | refine below_set ?_ GE263.out) | exact HB.out)⟩⟩
            rw [if_pos c33] at H
            have c33b0 : decide (x42_2 < ji12) = true := decide_eq_true c33
            clear c33
            have H' := Aside0.mk H
            clear H
            go_wp2
            go_loopg [8] k2 (fun kq v8 w' => ∃ (x5_3 : List (List (S68))) (x8_3 : Int), v8 = .int .i64 x8_3 ∧ Aside0 (impl_purse_table.l2 kq a1 x5_3 x6_1 x42_2 x8_3 ji12 x42_2 l0_0 l0_1 = some r) ∧ Aside0 (kq ≤ k2) ∧ Aside0 (Kd.S (Kd.slice 68 k68) 69 w' w.heap.size (fun _ => True) (.slice (some ⟨go17, 0, none⟩) x5_2.length co17) x5_3) ∧ Aside0 (w'.heap[gb263]? = some (.cells #[(.slice A0_0 l0_0.length c0_0), (.slice A0_1 l0_1.length c0_1)] 55 (0, 0))) ∧ Aside0 (Below w.heap.size w w'))
            case atStart => exact ⟨(x5_2), (0), (by first | rfl | (simp; done) | (simp [*]; done)), H', ⟨Nat.le_refl _⟩, ⟨by (try simp only [hl5_2]); (with_reducible repeat (first | apply Kd.S_alloc | apply Kd.S_drewN | apply Kd.S_drew)); exact HO_5.out⟩, ⟨by (try simp only [hl5_2]); (with_reducible repeat (first | refine blk_drewN ?_ _ | refine blk_drew ?_ | refine blk_alloc ?_ _)); exact BK263.out⟩, ⟨by repeat (first | (with_reducible first | exact HB.out | apply below_alloc | apply pw_below_drewN | apply below_drew1 | refine below_set ?_ GE263.out) | exact HB.out)⟩⟩
            case round =>
              clear H'
              try clear c1
              try clear p1
              try clear q1
              try clear hx1
              try clear c2
              try clear p2
              try clear q2
              try clear hx2
              try clear qi2
              try clear hf2
              try clear c3
              try clear hx3
              try clear hf3
              try clear c4
              try clear c4b0
              try clear c4b1
              try clear c5
              try clear c5b0
              try clear c5b1
              try clear p6
              try clear c7
              try clear c11
              try clear c11b0
              try clear c13
              try clear c13b0
              try clear c13b1
              try clear c14
              try clear c14b0
              try clear c14b1
              try clear c15
              try clear c15b0
              try clear c16
              try clear c16b0
              try clear c17
              try clear p17
              try clear q17
              try clear hx17
              try clear hf17
              try clear c18
              try clear c18b0
              try clear c18b1
              try clear c19
              try clear c19b0
              try clear c19b1
              try clear c20
              try clear p20
              try clear q20
              try clear hx20
              try clear qi20
              try clear hf20
              try clear c23
              try clear hx23
              try clear hf23
              try clear c26
              try clear q26
              try clear c27
              try clear p27
              try clear q27
              try clear hx27
              try clear c30
              try clear hx30
              try clear hf30
              try clear c33
              try clear c33b0
              try clear hcz10_0
              try clear hcz10_1
              try clear hcz25_0
              try clear hcz25_1
              try clear hcz32_0
              try clear hcz32_1
              try clear hcz7_0
              try clear hcz7_1
              try clear hfz10_0
              try clear hfz10_1
              try clear hfz25_0
              try clear hfz25_1
              try clear hfz32_0
              try clear hfz32_1
              try clear hfz7_0
              try clear hfz7_1
              try clear hx17_0
              try clear hx20_0
              try clear hx20_1
              try clear hx23_0
              try clear hx271_0
              try clear hx30_0
              try clear p1
              try clear p17
              try clear p2
              try clear p20
              try clear p27
              try clear p271
              try clear p6
              try clear q1
              try clear q17
              try clear q2
              try clear q20
              try clear q26
              try clear q27
              try clear q271
              obtain ⟨x5_3, x8_3, rfl, HA, HK3, HO_5, BK263, HB⟩ := hrel
              have hl5_3 := (Kd.S_reads' HO_5.out).1
              rw [hl5_3] at HO_5
              (try simp only [hl5_3])
              (try simp only [hl5_3] at BK263)
              cases gk with
              | zero => exact absurd HA.out (by simp [impl_purse_table.l2])
              | succ k3 =>
                have H := HA.out
                clear HA
                simp only [impl_purse_table.l2] at H
                have HC34 := Aside0.mk H
                clear H
                go_upto_region 12 with (fail)
                go_cut [62] (fun v62 wc => ∃ (kq : Nat) (x62_33 : Bool), v62 = .bool x62_33 ∧ Aside0 (impl_purse_table.j3 kq a1 x5_3 x6_1 x42_2 x8_3 ji12 x42_2 x62_33 l0_0 l0_1 = some r) ∧ Aside0 (kq ≤ k3) ∧ Aside0 (Kd.S (Kd.slice 68 k68) 69 wc w.heap.size (fun _ => True) (.slice (some ⟨go17, 0, none⟩) x5_3.length co17) x5_3) ∧ Aside0 (wc.heap[gb263]? = some (.cells #[(.slice A0_0 l0_0.length c0_0), (.slice A0_1 l0_1.length c0_1)] 55 (0, 0))) ∧ Aside0 (Below w.heap.size w wc))
                case first =>
                  have H := HC34.out
                  clear HC34
                  by_cases c35 : 0 ≤ x6_1
                  rotate_left
                  · rw [if_neg c35] at H
                    exact absurd H (by simp)
                  rw [if_pos c35] at H
                  have c35b0 : decide (0 ≤ x6_1) = true := decide_eq_true c35
                  clear c35
                  (first | rw [c35b0] | (simp only [i64_w, i32_w]; rw [c35b0]) | skip)
                  by_cases c36 : x6_1 < (l0_1.length : Int)
                  rotate_left
                  · rw [if_neg c36] at H
                    exact absurd H (by simp)
                  rw [if_pos c36] at H
                  have c36b0 : decide (x6_1 < (l0_1.length : Int)) = true := decide_eq_true c36
                  clear c36
                  by_cases c37 : x8_3 ≤ (rd l0_1 x6_1)
                  rotate_left
                  · rw [if_neg c37] at H
                    have c37b0 : decide (x8_3 ≤ (rd l0_1 x6_1)) = false := decide_eq_false c37
                    clear c37
                    have H' := Aside0.mk H
                    clear H
                    have hcz40_0 : wr.cell? ⟨gb263, 0, none⟩ = some (.slice A0_0 l0_0.length c0_0) := (blk_cell BK263.out 0).trans rfl
                    have hcz40_1 : wr.cell? ⟨gb263, 1, none⟩ = some (.slice A0_1 l0_1.length c0_1) := (blk_cell BK263.out 1).trans rfl
                    have hfz40_0 := blk_frozen BK263.out 0
                    have hfz40_1 := blk_frozen BK263.out 1
                    have p275 : 0 ≤ (x6_1 : Int) := of_decide_eq_true (by first | (with_reducible assumption) | assumption)
                    have q275 : x6_1 < (l0_1.length : Int) := of_decide_eq_true (by first | (with_reducible assumption) | assumption)
                    obtain ⟨ad275, e275, hx275_0⟩ := Kd.at_int HR0_1.out x6_1 p275 q275
                    cases e275
                    replace hx275_0 := (HB.out.cell (World.block_lt_of_cell? w _ hx275_0)).trans hx275_0
                    replace p275 := eq_true p275
                    replace q275 := eq_true q275
                    go_wp2
                    go_meet
                    case rel => exact ⟨_, (false), (by first | rfl | (simp; done) | (simp [*]; done)), H', ⟨by have := HK1.out; have := HK2.out; have := HK3.out; first | omega | exact Nat.le_refl _⟩, ⟨by (try simp only [hl5_2]); (try simp only [hl5_3]); (with_reducible repeat (first | apply Kd.S_alloc | apply Kd.S_drewN | apply Kd.S_drew)); exact HO_5.out⟩, ⟨by (try simp only [hl5_2]); (try simp only [hl5_3]); (with_reducible repeat (first | refine blk_drewN ?_ _ | refine blk_drew ?_ | refine blk_alloc ?_ _)); exact BK263.out⟩, ⟨by repeat (first | (with_reducible first | exact HB.out | apply below_alloc | apply pw_below_drewN | apply below_drew1 | refine below_set ?_ GE263.out) | exact HB.out)⟩⟩
                  rw [if_pos c37] at H
                  have c37b0 : decide (x8_3 ≤ (rd l0_1 x6_1)) = true := decide_eq_true c37
                  clear c37
                  by_cases c38 : x6_1 < (l0_0.length : Int)
                  rotate_left
                  · rw [if_neg c38] at H
                    exact absurd H (by simp)
                  rw [if_pos c38] at H
                  have c38b0 : decide (x6_1 < (l0_0.length : Int)) = true := decide_eq_true c38
                  clear c38
                  have H' := Aside0.mk H
                  clear H
                  have hcz39_0 : wr.cell? ⟨gb263, 0, none⟩ = some (.slice A0_0 l0_0.length c0_0) := (blk_cell BK263.out 0).trans rfl
                  have hcz39_1 : wr.cell? ⟨gb263, 1, none⟩ = some (.slice A0_1 l0_1.length c0_1) := (blk_cell BK263.out 1).trans rfl
                  have hfz39_0 := blk_frozen BK263.out 0
                  have hfz39_1 := blk_frozen BK263.out 1
                  have p275 : 0 ≤ (x6_1 : Int) := of_decide_eq_true (by first | (with_reducible assumption) | assumption)
                  have q275 : x6_1 < (l0_1.length : Int) := of_decide_eq_true (by first | (with_reducible assumption) | assumption)
                  obtain ⟨ad275, e275, hx275_0⟩ := Kd.at_int HR0_1.out x6_1 p275 q275
                  cases e275
                  replace hx275_0 := (HB.out.cell (World.block_lt_of_cell? w _ hx275_0)).trans hx275_0
                  replace p275 := eq_true p275
                  replace q275 := eq_true q275
                  have p276 : 0 ≤ (x6_1 : Int) := of_decide_eq_true (by first | (with_reducible assumption) | assumption)
                  have q276 : x6_1 < (l0_0.length : Int) := of_decide_eq_true (by first | (with_reducible assumption) | assumption)
                  obtain ⟨ad276, e276, hx276_0⟩ := Kd.at_int HR0_0.out x6_1 p276 q276
                  cases e276
                  replace hx276_0 := (HB.out.cell (World.block_lt_of_cell? w _ hx276_0)).trans hx276_0
                  replace p276 := eq_true p276
                  replace q276 := eq_true q276
                  go_wp2
                  go_meet
                  case rel => exact ⟨_, (decide ((wrap64 (x8_3 * (rd l0_0 x6_1))) ≤ x42_2)), (by first | rfl | (simp; done) | (simp [*]; done)), H', ⟨by have := HK1.out; have := HK2.out; have := HK3.out; first | omega | exact Nat.le_refl _⟩, ⟨by (try simp only [hl5_2]); (try simp only [hl5_3]); (with_reducible repeat (first | apply Kd.S_alloc | apply Kd.S_drewN | apply Kd.S_drew)); exact HO_5.out⟩, ⟨by (try simp only [hl5_2]); (try simp only [hl5_3]); (with_reducible repeat (first | refine blk_drewN ?_ _ | refine blk_drew ?_ | refine blk_alloc ?_ _)); exact BK263.out⟩, ⟨by repeat (first | (with_reducible first | exact HB.out | apply below_alloc | apply pw_below_drewN | apply below_drew1 | refine below_set ?_ GE263.out) | exact HB.out)⟩⟩
                case rest =>
                  clear HC34
                  try clear c1
                  try clear p1
                  try clear q1
                  try clear hx1
                  try clear c2
                  try clear p2
                  try clear q2
                  try clear hx2
                  try clear qi2
                  try clear hf2
                  try clear c3
                  try clear hx3
                  try clear hf3
                  try clear c4
                  try clear c4b0
                  try clear c4b1
                  try clear c5
                  try clear c5b0
                  try clear c5b1
                  try clear p6
                  try clear c7
                  try clear c11
                  try clear c11b0
                  try clear c13
                  try clear c13b0
                  try clear c13b1
                  try clear c14
                  try clear c14b0
                  try clear c14b1
                  try clear c15
                  try clear c15b0
                  try clear c16
                  try clear c16b0
                  try clear c17
                  try clear p17
                  try clear q17
                  try clear hx17
                  try clear hf17
                  try clear c18
                  try clear c18b0
                  try clear c18b1
                  try clear c19
                  try clear c19b0
                  try clear c19b1
                  try clear c20
                  try clear p20
                  try clear q20
                  try clear hx20
                  try clear qi20
                  try clear hf20
                  try clear c23
                  try clear hx23
                  try clear hf23
                  try clear c26
                  try clear q26
                  try clear c27
                  try clear p27
                  try clear q27
                  try clear hx27
                  try clear c30
                  try clear hx30
                  try clear hf30
                  try clear c33
                  try clear c33b0
                  try clear c35
                  try clear c35b0
                  try clear c36
                  try clear c36b0
                  try clear c37
                  try clear c37b0
                  try clear c38
                  try clear c38b0
                  try clear hcz10_0
                  try clear hcz10_1
                  try clear hcz25_0
                  try clear hcz25_1
                  try clear hcz32_0
                  try clear hcz32_1
                  try clear hcz39_0
                  try clear hcz39_1
                  try clear hcz40_0
                  try clear hcz40_1
                  try clear hcz7_0
                  try clear hcz7_1
                  try clear hfz10_0
                  try clear hfz10_1
                  try clear hfz25_0
                  try clear hfz25_1
                  try clear hfz32_0
                  try clear hfz32_1
                  try clear hfz39_0
                  try clear hfz39_1
                  try clear hfz40_0
                  try clear hfz40_1
                  try clear hfz7_0
                  try clear hfz7_1
                  try clear hx17_0
                  try clear hx20_0
                  try clear hx20_1
                  try clear hx23_0
                  try clear hx271_0
                  try clear hx275_0
                  try clear hx276_0
                  try clear hx30_0
                  try clear p1
                  try clear p17
                  try clear p2
                  try clear p20
                  try clear p27
                  try clear p271
                  try clear p275
                  try clear p276
                  try clear p6
                  try clear q1
                  try clear q17
                  try clear q2
                  try clear q20
                  try clear q26
                  try clear q27
                  try clear q271
                  try clear q275
                  try clear q276
                  obtain ⟨kq, x62_33, rfl, HA, HJ33, HO_5, BK263, HB⟩ := hcut
                  cases kq with
                  | zero => exact absurd HA.out (by simp [impl_purse_table.j3])
                  | succ kj33 =>
                    have H := HA.out
                    clear HA
                    simp only [impl_purse_table.j3] at H
                    by_cases c41 : x62_33 = true
                    rotate_left
                    · replace c41 := Bool.eq_false_iff.mpr c41
                      subst c41
                      have H1 : (impl_purse_table.l1 kj33 a1 x5_3 x6_1 ji12 (wrap64 (x42_2 + 1)) l0_0 l0_1) = some r := by rw [if_neg (show ¬ (false = true) by decide)] at H; exact H
                      clear H
                      have H := H1
                      clear H1
                      have H' := Aside0.mk H
                      clear H
                      go_wp2
                      (try simp only [← hl5_2, ← hl5_3])
                      go_roundg kj33
                      case measure => have := HK1.out; have := HK2.out; have := HK3.out; have := HJ33.out; omega
                      case rel => exact ⟨(x5_3), (wrap64 (x42_2 + 1)), (by first | rfl | (simp; done) | (simp [*]; done)), H', ⟨by have := HK1.out; have := HK2.out; have := HK3.out; have := HJ33.out; omega⟩, ⟨by (try simp only [hl5_2]); (try simp only [hl5_3]); (with_reducible repeat (first | apply Kd.S_alloc | apply Kd.S_drewN | apply Kd.S_drew)); exact HO_5.out⟩, ⟨by (try simp only [hl5_2]); (try simp only [hl5_3]); (with_reducible repeat (first | refine blk_drewN ?_ _ | refine blk_drew ?_ | refine blk_alloc ?_ _)); exact BK263.out⟩, ⟨by repeat (first | (with_reducible first | exact HB.out | apply below_alloc | apply pw_below_drewN | apply below_drew1 | refine below_set ?_ GE263.out) | exact HB.out)⟩⟩
                    subst c41
                    have H1 : (if 0 ≤ (wrap64 (x6_1 + 1)) then (if (wrap64 (x6_1 + 1)) < (x5_3.length : Int) then (if 0 ≤ x6_1 then (if x6_1 < (l0_0.length : Int) then (if 0 ≤ (wrap64 (x42_2 - (wrap64 (x8_3 * (rd l0_0 x6_1))))) then (if (wrap64 (x42_2 - (wrap64 (x8_3 * (rd l0_0 x6_1))))) < ((rd_L7 x5_3 (wrap64 (x6_1 + 1))).length : Int) then (if ((rd_T68 (rd_L7 x5_3 (wrap64 (x6_1 + 1))) (wrap64 (x42_2 - (wrap64 (x8_3 * (rd l0_0 x6_1)))))).f0) = 0 then (impl_purse_table.l2 kj33 a1 x5_3 x6_1 x42_2 (wrap64 (x8_3 + 1)) ji12 x42_2 l0_0 l0_1) else (if x6_1 < (x5_3.length : Int) then (if 0 ≤ x42_2 then (if x42_2 < ((rd_L7 x5_3 x6_1).length : Int) then (if ((rd_T68 (rd_L7 x5_3 x6_1) x42_2).f0) = 0 then (impl_purse_table.j4 kj33 a1 x5_3 x6_1 x42_2 x8_3 ji12 x42_2 true l0_0 l0_1 ((rd_T68 (rd_L7 x5_3 (wrap64 (x6_1 + 1))) (wrap64 (x42_2 - (wrap64 (x8_3 * (rd l0_0 x6_1)))))).f0) ((rd_T68 (rd_L7 x5_3 (wrap64 (x6_1 + 1))) (wrap64 (x42_2 - (wrap64 (x8_3 * (rd l0_0 x6_1)))))).f1)) else (impl_purse_table.j4 kj33 a1 x5_3 x6_1 x42_2 x8_3 ji12 x42_2 (decide ((wrap64 (((rd_T68 (rd_L7 x5_3 (wrap64 (x6_1 + 1))) (wrap64 (x42_2 - (wrap64 (x8_3 * (rd l0_0 x6_1)))))).f1) + x8_3)) < ((rd_T68 (rd_L7 x5_3 x6_1) x42_2).f1))) l0_0 l0_1 ((rd_T68 (rd_L7 x5_3 (wrap64 (x6_1 + 1))) (wrap64 (x42_2 - (wrap64 (x8_3 * (rd l0_0 x6_1)))))).f0) ((rd_T68 (rd_L7 x5_3 (wrap64 (x6_1 + 1))) (wrap64 (x42_2 - (wrap64 (x8_3 * (rd l0_0 x6_1)))))).f1))) else (none)) else (none)) else (none))) else (none)) else (none)) else (none)) else (none)) else (none)) else (none)) = some r := by rw [if_pos rfl] at H; exact H
                    clear H
                    have H := H1
                    clear H1
                    obtain ⟨ji42, hji42⟩ : ∃ j_ : Int, (wrap64 (x6_1 + 1)) = j_ := ⟨_, rfl⟩
                    replace H : (if 0 ≤ (ji42) then (if (ji42) < (x5_3.length : Int) then (if 0 ≤ x6_1 then (if x6_1 < (l0_0.length : Int) then (if 0 ≤ (wrap64 (x42_2 - (wrap64 (x8_3 * (rd l0_0 x6_1))))) then (if (wrap64 (x42_2 - (wrap64 (x8_3 * (rd l0_0 x6_1))))) < ((rd_L7 x5_3 (ji42)).length : Int) then (if ((rd_T68 (rd_L7 x5_3 (ji42)) (wrap64 (x42_2 - (wrap64 (x8_3 * (rd l0_0 x6_1)))))).f0) = 0 then (impl_purse_table.l2 kj33 a1 x5_3 x6_1 x42_2 (wrap64 (x8_3 + 1)) ji12 x42_2 l0_0 l0_1) else (if x6_1 < (x5_3.length : Int) then (if 0 ≤ x42_2 then (if x42_2 < ((rd_L7 x5_3 x6_1).length : Int) then (if ((rd_T68 (rd_L7 x5_3 x6_1) x42_2).f0) = 0 then (impl_purse_table.j4 kj33 a1 x5_3 x6_1 x42_2 x8_3 ji12 x42_2 true l0_0 l0_1 ((rd_T68 (rd_L7 x5_3 (ji42)) (wrap64 (x42_2 - (wrap64 (x8_3 * (rd l0_0 x6_1)))))).f0) ((rd_T68 (rd_L7 x5_3 (ji42)) (wrap64 (x42_2 - (wrap64 (x8_3 * (rd l0_0 x6_1)))))).f1)) else (impl_purse_table.j4 kj33 a1 x5_3 x6_1 x42_2 x8_3 ji12 x42_2 (decide ((wrap64 (((rd_T68 (rd_L7 x5_3 (ji42)) (wrap64 (x42_2 - (wrap64 (x8_3 * (rd l0_0 x6_1)))))).f1) + x8_3)) < ((rd_T68 (rd_L7 x5_3 x6_1) x42_2).f1))) l0_0 l0_1 ((rd_T68 (rd_L7 x5_3 (ji42)) (wrap64 (x42_2 - (wrap64 (x8_3 * (rd l0_0 x6_1)))))).f0) ((rd_T68 (rd_L7 x5_3 (ji42)) (wrap64 (x42_2 - (wrap64 (x8_3 * (rd l0_0 x6_1)))))).f1))) else (none)) else (none)) else (none))) else (none)) else (none)) else (none)) else (none)) else (none)) else (none)) = some r := by first | (rw [hji42] at H; exact H) | (simp only [hji42] at H ⊢; exact H)
                    have hji42w : (IntKind.i64.wrap (x6_1 + 1)) = ji42 := (i64_w _).trans hji42
                    by_cases c43 : 0 ≤ (ji42)
                    rotate_left
                    · rw [if_neg c43] at H
                      exact absurd H (by simp)
                    rw [if_pos c43] at H
                    have c43b0 : decide (0 ≤ (ji42)) = true := decide_eq_true c43
                    clear c43
                    by_cases c44 : (ji42) < (x5_3.length : Int)
                    rotate_left
                    · rw [if_neg c44] at H
                      exact absurd H (by simp)
                    rw [if_pos c44] at H
                    have c44b0 : decide ((ji42) < (x5_3.length : Int)) = true := decide_eq_true c44
                    clear c44
                    by_cases c45 : 0 ≤ x6_1
                    rotate_left
                    · rw [if_neg c45] at H
                      exact absurd H (by simp)
                    rw [if_pos c45] at H
                    have c45b0 : decide (0 ≤ x6_1) = true := decide_eq_true c45
                    clear c45
                    by_cases c46 : x6_1 < (l0_0.length : Int)
                    rotate_left
                    · rw [if_neg c46] at H
                      exact absurd H (by simp)
                    rw [if_pos c46] at H
                    have c46b0 : decide (x6_1 < (l0_0.length : Int)) = true := decide_eq_true c46
                    clear c46
                    obtain ⟨ji47, hji47⟩ : ∃ j_ : Int, (wrap64 (x42_2 - (wrap64 (x8_3 * (rd l0_0 x6_1))))) = j_ := ⟨_, rfl⟩
                    replace H : (if 0 ≤ (ji47) then (if (ji47) < ((rd_L7 x5_3 (ji42)).length : Int) then (if ((rd_T68 (rd_L7 x5_3 (ji42)) (ji47)).f0) = 0 then (impl_purse_table.l2 kj33 a1 x5_3 x6_1 x42_2 (wrap64 (x8_3 + 1)) ji12 x42_2 l0_0 l0_1) else (if x6_1 < (x5_3.length : Int) then (if 0 ≤ x42_2 then (if x42_2 < ((rd_L7 x5_3 x6_1).length : Int) then (if ((rd_T68 (rd_L7 x5_3 x6_1) x42_2).f0) = 0 then (impl_purse_table.j4 kj33 a1 x5_3 x6_1 x42_2 x8_3 ji12 x42_2 true l0_0 l0_1 ((rd_T68 (rd_L7 x5_3 (ji42)) (ji47)).f0) ((rd_T68 (rd_L7 x5_3 (ji42)) (ji47)).f1)) else (impl_purse_table.j4 kj33 a1 x5_3 x6_1 x42_2 x8_3 ji12 x42_2 (decide ((wrap64 (((rd_T68 (rd_L7 x5_3 (ji42)) (ji47)).f1) + x8_3)) < ((rd_T68 (rd_L7 x5_3 x6_1) x42_2).f1))) l0_0 l0_1 ((rd_T68 (rd_L7 x5_3 (ji42)) (ji47)).f0) ((rd_T68 (rd_L7 x5_3 (ji42)) (ji47)).f1))) else (none)) else (none)) else (none))) else (none)) else (none)) = some r := by first | (rw [hji47] at H; exact H) | (simp only [hji47] at H ⊢; exact H)
                    have hji47w : (IntKind.i64.wrap (x42_2 - (wrap64 (x8_3 * (rd l0_0 x6_1))))) = ji47 := (i64_w _).trans hji47
                    by_cases c48 : 0 ≤ (ji47)
                    rotate_left
                    · rw [if_neg c48] at H
                      exact absurd H (by simp)
                    rw [if_pos c48] at H
                    have c48b0 : decide (0 ≤ (ji47)) = true := decide_eq_true c48
                    clear c48
                    by_cases c49 : (ji47) < ((rd_L7 x5_3 (ji42)).length : Int)
                    rotate_left
                    · rw [if_neg c49] at H
                      exact absurd H (by simp)
                    rw [if_pos c49] at H
                    have c49b0 : decide ((ji47) < ((rd_L7 x5_3 (ji42)).length : Int)) = true := decide_eq_true c49
                    clear c49
                    by_cases c50 : ((rd_T68 (rd_L7 x5_3 (ji42)) (ji47)).f0) = 0
                    rotate_left
                    · rw [if_neg c50] at H
                      have c50b0 : (((rd_T68 (rd_L7 x5_3 (ji42)) (ji47)).f0) == 0) = false := beq_eq_false_iff_ne.mpr c50
                      have c50b1 : (((rd_T68 (rd_L7 x5_3 (ji42)) (ji47)).f0) != 0) = true := bne_iff_ne.mpr c50
                      by_cases c57 : x6_1 < (x5_3.length : Int)
                      rotate_left
                      · rw [if_neg c57] at H
                        exact absurd H (by simp)
                      rw [if_pos c57] at H
                      have c57b0 : decide (x6_1 < (x5_3.length : Int)) = true := decide_eq_true c57
                      clear c57
                      by_cases c58 : 0 ≤ x42_2
                      rotate_left
                      · rw [if_neg c58] at H
                        exact absurd H (by simp)
                      rw [if_pos c58] at H
                      have c58b0 : decide (0 ≤ x42_2) = true := decide_eq_true c58
                      clear c58
                      by_cases c59 : x42_2 < ((rd_L7 x5_3 x6_1).length : Int)
                      rotate_left
                      · rw [if_neg c59] at H
                        exact absurd H (by simp)
                      rw [if_pos c59] at H
                      have c59b0 : decide (x42_2 < ((rd_L7 x5_3 x6_1).length : Int)) = true := decide_eq_true c59
                      clear c59
                      have HC60 := Aside0.mk H
                      clear H
                      try go_wp2
                      have n0_ := Aside0.mk (Kd.S_drew HO_5.out)
                      have n1_ := Aside0.mk (blk_drew BK263.out)
                      have n2_ := Aside0.mk (below_drew1 HB.out)
                      clear HO_5
                      clear BK263
                      clear HB
                      have HO_5 := n0_
                      have BK263 := n1_
                      have HB := n2_
                      clear n0_ n1_ n2_
                      have p277 : 0 ≤ ((ji42) : Int) := of_decide_eq_true (by first | (with_reducible assumption) | assumption)
                      have q277 : (ji42) < (x5_3.length : Int) := of_decide_eq_true (by first | (with_reducible assumption) | assumption)
                      obtain ⟨ad277, A277_0, c277_0, e277, hx277_0, hl277_0, hi277_0⟩ := at_L7 (Kd.S_reads' HO_5.out).2.2 (ji42) p277 q277
                      obtain rfl : (⟨go17, 0, none⟩ : Addr) = ad277 := (by injection e277)
                      obtain ⟨ce277, hce277, hMe277, hcc277⟩ := Kd.S_get HO_5.out [] (ji42) p277 (by first | exact q277 | exact of_decide_eq_true (by first | (with_reducible assumption) | assumption) | (have e_ := (Kd.S_reads' HO_5.out).1; omega))
                      obtain ⟨ve277_0, rfl, ge277_0⟩ := hMe277
                      have hv277_0 := hcc277 0 _ rfl
                      rw [Nat.add_zero, show ((Kd.slice 68 k68)).sz = 1 from rfl, Nat.mul_one] at hv277_0
                      replace hv277_0 := Option.some.inj (hv277_0.symm.trans hx277_0)
                      rw [hv277_0] at ge277_0
                      have HL277_0 := Aside0.mk (show Kd.R k68 68 _ _ _ _ (rd_L7 x5_3 (ji42)) from ge277_0)
                      clear hv277_0 ge277_0
                      have HX277_0 := Aside0.mk hx277_0
                      clear hcc277 hce277
                      (first | simp only [add_plain] at hx277_0 | simp only [add_at] at hx277_0 | simp only [Addr.add, Nat.zero_add] at hx277_0 | skip)
                      have HR277_0 := Aside0.mk hi277_0
                      have HC277_0 := Aside0.mk hl277_0
                      clear hi277_0 hl277_0
                      replace p277 := eq_true p277
                      replace q277 := eq_true q277
                      have p278 : 0 ≤ (x6_1 : Int) := of_decide_eq_true (by first | (with_reducible assumption) | assumption)
                      have q278 : x6_1 < (l0_0.length : Int) := of_decide_eq_true (by first | (with_reducible assumption) | assumption)
                      obtain ⟨ad278, e278, hx278_0⟩ := Kd.at_int HR0_0.out x6_1 p278 q278
                      have hw278_0 := hx278_0
                      cases e278
                      replace hx278_0 := (HB.out.cell (World.block_lt_of_cell? w _ hx278_0)).trans hx278_0
                      replace p278 := eq_true p278
                      replace q278 := eq_true q278
                      have p279 : 0 ≤ ((ji47) : Int) := of_decide_eq_true (by first | (with_reducible assumption) | assumption)
                      have q279 : (ji47) < ((rd_L7 x5_3 (ji42)).length : Int) := of_decide_eq_true (by first | (with_reducible assumption) | assumption)
                      obtain ⟨ad279, e279, hx279_0, hx279_1⟩ := at_T68 (by repeat (first | (with_reducible exact HR277_0.out) | (with_reducible refine Kd.C_alloc ?_ _) | (with_reducible refine Kd.C_drewN ?_ _) | (with_reducible refine Kd.C_drew ?_) | exact HR277_0.out)) (ji47) p279 q279
                      cases e279
                      replace p279 := eq_true p279
                      replace q279 := eq_true q279
                      refine start_ (n := 18) (S := fun w' => w'.cell? ⟨gb263, 0, none⟩ = some (.slice (some ad278) l0_0.length c0_0) ∧ w'.cell? ⟨gb263, 1, none⟩ = some (.slice A0_1 l0_1.length c0_1) ∧ w'.cell? ⟨go17, ((ji42)).toNat, none⟩ = some (.slice (some ad279) (rd_L7 x5_3 (ji42)).length c277_0) ∧ w'.cell? (ad278.add (x6_1).toNat) = some (.int .i64 (rd l0_0 x6_1)) ∧ w'.cell? (ad279.add (((ji47)).toNat * 2)) = some (.int .i64 ((rd_T68 (rd_L7 x5_3 (ji42)) (ji47)).f0)) ∧ w'.cell? ⟨(ad279.add (((ji47)).toNat * 2)).block, (ad279.add (((ji47)).toNat * 2)).off + 1, none⟩ = some (.int .i64 ((rd_T68 (rd_L7 x5_3 (ji42)) (ji47)).f1))) (ds := []) #[false, false, false, false, false, false, false, false, false, false, false, false, false, false, false, false, false, false] (by kernel_rfl) rfl rfl ⟨(blk_cell BK263.out 0).trans rfl, (blk_cell BK263.out 1).trans rfl, hx277_0, ((HB.out.cell (World.block_lt_of_cell? w _ hw278_0)).trans hw278_0), hx279_0, hx279_1⟩ (fun hHeld => ?_); refine with_tabW impl_purse_table.tab14 impl_purse_table.bits14 (fun HT_ HW_ => ?_)
                      generalize wc.drew = w61 at HO_5 BK263 HB HL277_0 HR277_0 HX277_0 hx277_0 hx278_0 hx279_0 hx279_1 hHeld ⊢
                      refine pure_ (i := 0) (N := some 65) (v := ?_) (a' := ?_) #[true, false, false, false, false, false, false, false, false, false, false, false, false, false, false, false, false, false] rfl rfl (any_of HT_.out (by kernel_rfl)) (fun _ _ _ h => h) (Or.inl ⟨by rfl, ?_⟩) ?_ ?_
                      rotate_left
                      · intro w'
                        go_simp
                        with_reducible rfl
                      rotate_left
                      · simp only [Act.put, List.setIfInBounds_toArray, List.set_cons_zero, List.set_cons_succ, i64_w, i32_w]
                        rfl
                      refine pure_ (i := 1) (N := some 66) (v := ?_) (a' := ?_) #[true, true, false, false, false, false, false, false, false, false, false, false, false, false, false, false, false, false] rfl rfl (any_of HT_.out (by kernel_rfl)) (fun _ _ _ h => h) (Or.inl ⟨by rfl, ?_⟩) ?_ ?_
                      rotate_left
                      · intro w'
                        go_simp
                        with_reducible rfl
                      rotate_left
                      · simp only [Act.put, List.setIfInBounds_toArray, List.set_cons_zero, List.set_cons_succ, i64_w, i32_w]
                        rfl
                      refine pure_ (i := 2) (N := some 67) (v := ?_) (a' := ?_) #[true, true, true, false, false, false, false, false, false, false, false, false, false, false, false, false, false, false] rfl rfl (any_of HT_.out (by kernel_rfl)) (fun _ _ _ h => h) (Or.inl ⟨by rfl, ?_⟩) ?_ ?_
                      rotate_left
                      · intro w'
                        go_simp
                        with_reducible rfl
                      rotate_left
                      · simp only [Act.put, List.setIfInBounds_toArray, List.set_cons_zero, List.set_cons_succ, i64_w, i32_w]
                        rfl
                      refine pure_ (i := 3) (N := some 68) (v := ?_) (a' := ?_) #[true, true, true, true, false, false, false, false, false, false, false, false, false, false, false, false, false, false] rfl rfl (any_of HT_.out (by kernel_rfl)) (fun _ _ _ h => h) (Or.inl ⟨by rfl, ?_⟩) ?_ ?_
                      rotate_left
                      · intro w'
                        go_simp
                        with_reducible rfl
                      rotate_left
                      · simp only [Act.put, List.setIfInBounds_toArray, List.set_cons_zero, List.set_cons_succ, i64_w, i32_w]
                        rfl
                      refine pure_ (i := 5) (N := some 70) (v := ?_) (a' := ?_) #[true, true, true, true, false, true, false, false, false, false, false, false, false, false, false, false, false, false] rfl rfl (any_of HT_.out (by kernel_rfl)) (fun _ _ _ h => h) (Or.inl ⟨by rfl, ?_⟩) ?_ ?_
                      rotate_left
                      · intro w'
                        go_simp
                        with_reducible rfl
                      rotate_left
                      · simp only [Act.put, List.setIfInBounds_toArray, List.set_cons_zero, List.set_cons_succ, i64_w, i32_w]
                        rfl
                      refine pure_ (i := 6) (N := some 71) (v := ?_) (a' := ?_) #[true, true, true, true, false, true, true, false, false, false, false, false, false, false, false, false, false, false] rfl rfl (any_of HT_.out (by kernel_rfl)) (fun _ _ _ h => h) (Or.inl ⟨by rfl, ?_⟩) ?_ ?_
                      rotate_left
                      · intro w'
                        go_simp
                        with_reducible rfl
                      rotate_left
                      · simp only [Act.put, List.setIfInBounds_toArray, List.set_cons_zero, List.set_cons_succ, i64_w, i32_w]
                        rfl
                      refine pure_ (i := 7) (N := some 72) (v := ?_) (a' := ?_) #[true, true, true, true, false, true, true, true, false, false, false, false, false, false, false, false, false, false] rfl rfl (any_of HT_.out (by kernel_rfl)) (fun _ _ _ h => h) (Or.inl ⟨by rfl, ?_⟩) ?_ ?_
                      rotate_left
                      · intro w'
                        go_simp
                        with_reducible rfl
                      rotate_left
                      · simp only [Act.put, List.setIfInBounds_toArray, List.set_cons_zero, List.set_cons_succ, i64_w, i32_w]
                        rfl
                      refine pure_ (i := 9) (N := some 74) (v := ?_) (a' := ?_) #[true, true, true, true, false, true, true, true, false, true, false, false, false, false, false, false, false, false] rfl rfl (any_of HT_.out (by kernel_rfl)) (fun _ _ _ h => h) (Or.inl ⟨by rfl, ?_⟩) ?_ ?_
                      rotate_left
                      · intro w'
                        go_simp
                        with_reducible rfl
                      rotate_left
                      · simp only [Act.put, List.setIfInBounds_toArray, List.set_cons_zero, List.set_cons_succ, i64_w, i32_w]
                        rfl
                      refine take_ (i := 4) (N := some 69) (v := ?_) (a' := ?_) #[true, true, true, true, true, true, true, true, false, true, false, false, false, false, false, false, false, false] rfl rfl (take_ofW HT_.out HW_.out (by kernel_rfl)) (fun _ _ _ h => h) (Or.inl ⟨by rfl, ?_⟩) hHeld ?_ ?_
                      rotate_left
                      · rintro w' ⟨s0, s1, s2, s3, s4, s5⟩
                        go_simp
                        with_reducible rfl
                      rotate_left
                      · simp only [Act.put, List.setIfInBounds_toArray, List.set_cons_zero, List.set_cons_succ, i64_w, i32_w]
                        rfl
                      refine take_ (i := 8) (N := some 73) (v := ?_) (a' := ?_) #[true, true, true, true, true, true, true, true, true, true, false, false, false, false, false, false, false, false] rfl rfl (take_ofW HT_.out HW_.out (by kernel_rfl)) (fun _ _ _ h => h) (Or.inl ⟨by rfl, ?_⟩) hHeld ?_ ?_
                      rotate_left
                      · rintro w' ⟨s0, s1, s2, s3, s4, s5⟩
                        go_simp
                        with_reducible rfl
                      rotate_left
                      · simp only [Act.put, List.setIfInBounds_toArray, List.set_cons_zero, List.set_cons_succ, i64_w, i32_w]
                        rfl
                      refine pure_ (i := 10) (N := some 75) (v := ?_) (a' := ?_) #[true, true, true, true, true, true, true, true, true, true, true, false, false, false, false, false, false, false] rfl rfl (any_of HT_.out (by kernel_rfl)) (fun _ _ _ h => h) (Or.inl ⟨by rfl, ?_⟩) ?_ ?_
                      rotate_left
                      · intro w'
                        go_simp
                        with_reducible rfl
                      rotate_left
                      · simp only [Act.put, List.setIfInBounds_toArray, List.set_cons_zero, List.set_cons_succ, i64_w, i32_w]
                        rfl
                      refine take_ (i := 11) (N := some 76) (v := ?_) (a' := ?_) #[true, true, true, true, true, true, true, true, true, true, true, true, false, false, false, false, false, false] rfl rfl (take_ofW HT_.out HW_.out (by kernel_rfl)) (fun _ _ _ h => h) (Or.inl ⟨by rfl, ?_⟩) hHeld ?_ ?_
                      rotate_left
                      · rintro w' ⟨s0, s1, s2, s3, s4, s5⟩
                        go_simp
                        with_reducible rfl
                      rotate_left
                      · simp only [Act.put, List.setIfInBounds_toArray, List.set_cons_zero, List.set_cons_succ, i64_w, i32_w]
                        rfl
                      refine pure_ (i := 12) (N := some 77) (v := ?_) (a' := ?_) #[true, true, true, true, true, true, true, true, true, true, true, true, true, false, false, false, false, false] rfl rfl (any_of HT_.out (by kernel_rfl)) (fun _ _ _ h => h) (Or.inl ⟨by rfl, ?_⟩) ?_ ?_
                      rotate_left
                      · intro w'
                        go_simp
                        with_reducible rfl
                      rotate_left
                      · simp only [Act.put, List.setIfInBounds_toArray, List.set_cons_zero, List.set_cons_succ, i64_w, i32_w]
                        rfl
                      refine pure_ (i := 13) (N := some 78) (v := ?_) (a' := ?_) #[true, true, true, true, true, true, true, true, true, true, true, true, true, true, false, false, false, false] rfl rfl (any_of HT_.out (by kernel_rfl)) (fun _ _ _ h => h) (Or.inl ⟨by rfl, ?_⟩) ?_ ?_
                      rotate_left
                      · intro w'
                        go_simp
                        with_reducible rfl
                      rotate_left
                      · simp only [Act.put, List.setIfInBounds_toArray, List.set_cons_zero, List.set_cons_succ, i64_w, i32_w]
                        rfl
                      refine pure_ (i := 14) (N := some 79) (v := ?_) (a' := ?_) #[true, true, true, true, true, true, true, true, true, true, true, true, true, true, true, false, false, false] rfl rfl (any_of HT_.out (by kernel_rfl)) (fun _ _ _ h => h) (Or.inl ⟨by rfl, ?_⟩) ?_ ?_
                      rotate_left
                      · intro w'
                        go_simp
                        with_reducible rfl
                      rotate_left
                      · simp only [Act.put, List.setIfInBounds_toArray, List.set_cons_zero, List.set_cons_succ, i64_w, i32_w]
                        rfl
                      refine take_ (i := 15) (N := some 80) (v := ?_) (a' := ?_) #[true, true, true, true, true, true, true, true, true, true, true, true, true, true, true, true, false, false] rfl rfl (take_ofW HT_.out HW_.out (by kernel_rfl)) (fun _ _ _ h => h) (Or.inl ⟨by rfl, ?_⟩) hHeld ?_ ?_
                      rotate_left
                      · rintro w' ⟨s0, s1, s2, s3, s4, s5⟩
                        go_simp
                        with_reducible rfl
                      rotate_left
                      · simp only [Act.put, List.setIfInBounds_toArray, List.set_cons_zero, List.set_cons_succ, i64_w, i32_w]
                        rfl
                      refine one_ (i := 16) (N := some 9) #[true, true, true, true, true, true, true, true, true, true, true, true, true, true, true, true, true, false] rfl rfl (one_of HT_.out (by kernel_rfl)) (by decide) (fun K hK => ?_)
                      refine box_step ?hg (N := 9) ?hd (cs := #[.int .i64 0, .int .i64 0]) (t := 68) ?hr ?_; (case hd => rfl); (case hg => rfl); (case hr => first | (go_simp; done) | (go_simp; rfl))
                      intro gb280 hg w62 hbox hb
                      have HS2_ := (hb.cell (World.block_lt_of_cell? _ _ (hHeld.2.2.1))).trans (hHeld.2.2.1)
                      have HS4_ := (hb.cell (World.block_lt_of_cell? _ _ (hHeld.2.2.2.2.1))).trans (hHeld.2.2.2.2.1)
                      have HS5_ := (hb.cell (World.block_lt_of_cell? _ _ (hHeld.2.2.2.2.2))).trans (hHeld.2.2.2.2.2)
                      have n0_ := Aside0.mk (Kd.S_below (Kd.S_elderB (by (with_reducible repeat (first | apply Kd.S_alloc | apply Kd.S_drewN | apply Kd.S_drew)); exact HO_5.out) gb280 (Nat.le_of_eq hg.symm)) hb)
                      have n1_ := Aside0.mk (Kd.R_below (Kd.R_elderB (by (with_reducible repeat (first | apply Kd.R_alloc | apply Kd.R_drewN | apply Kd.R_drew)); exact HL277_0.out) gb280 (Nat.le_of_eq hg.symm)) hb)
                      have n2_ := Aside0.mk (blk_below (g := gb263) (o := .cells #[.slice (some ad278) l0_0.length c0_0, .slice A0_1 l0_1.length c0_1] 55 (0, 0)) (by (with_reducible repeat (first | refine blk_drewN ?_ _ | refine blk_drew ?_ | refine blk_alloc ?_ _)); exact BK263.out) hb)
                      have n3_ := Aside0.mk (Kd.C_below (by repeat (first | (with_reducible exact HR277_0.out) | (with_reducible refine Kd.C_alloc ?_ _) | (with_reducible refine Kd.C_drewN ?_ _) | (with_reducible refine Kd.C_drew ?_) | exact HR277_0.out)) hb)
                      have n4_ := Aside0.mk (pw_cell_below hb HX277_0.out)
                      have n5_ := Aside0.mk (below_step (by repeat (first | (with_reducible first | exact HB.out | apply below_alloc | apply pw_below_drewN | apply below_drew1 | refine below_set ?_ GE263.out) | exact HB.out)) hb)
                      have n6_ := Aside0.mk (hbox)
                      have n7_ := Aside0.mk ((by rw [hg]; exact (below_size (by repeat (first | (with_reducible first | exact HB.out | apply below_alloc | apply pw_below_drewN | apply below_drew1 | refine below_set ?_ GE263.out) | exact HB.out))) : w.heap.size ≤ gb280))
                      have n8_ := Aside0.mk ((by rw [hg]; exact (below_size (by repeat (first | (with_reducible first | exact HB.out | apply below_alloc | apply pw_below_drewN | apply below_drew1 | refine below_set ?_ GE263.out) | exact HB.out))) : w.heap.size ≤ gb280))
                      have n9_ := Aside0.mk ((by rw [hg]; exact Nat.ne_of_lt (blk_lt (g := gb263) (o := .cells #[.slice (some ad278) l0_0.length c0_0, .slice A0_1 l0_1.length c0_1] 55 (0, 0)) (by (with_reducible repeat (first | refine blk_drewN ?_ _ | refine blk_drew ?_ | refine blk_alloc ?_ _)); exact BK263.out)) : gb263 ≠ gb280))
                      have n10_ := Aside0.mk ((by rw [hg]; exact Nat.ne_of_gt (blk_lt (g := gb263) (o := .cells #[.slice (some ad278) l0_0.length c0_0, .slice A0_1 l0_1.length c0_1] 55 (0, 0)) (by (with_reducible repeat (first | refine blk_drewN ?_ _ | refine blk_drew ?_ | refine blk_alloc ?_ _)); exact BK263.out)) : gb280 ≠ gb263))
                      clear HO_5
                      clear HL277_0
                      clear BK263
                      clear HR277_0
                      clear HX277_0
                      clear HB
                      have HO_5 := n0_
                      have HL277_0 := n1_
                      have BK263 := n2_
                      have HR277_0 := n3_
                      have HX277_0 := n4_
                      have HB := n5_
                      have BK280 := n6_
                      have GW280 := n7_
                      have GE280 := n8_
                      have NB263_280 := n9_
                      have NB280_263 := n10_
                      clear n0_ n1_ n2_ n3_ n4_ n5_ n6_ n7_ n8_ n9_ n10_
                      clear hb hbox hg
                      refine hK.out _ _ ⟨(blk_cell BK263.out 0).trans rfl, (blk_cell BK263.out 1).trans rfl, HS2_, ((HB.out.cell (World.block_lt_of_cell? w _ hw278_0)).trans hw278_0), HS4_, HS5_⟩ (fun hHeld => ?_)
                      clear hK K
                      refine norm_ (a' := ?_) ?_ ?_
                      rotate_left
                      · show Act.put _ (some 9) _ = _
                        simp only [Act.put, List.setIfInBounds_toArray, List.set_cons_zero, List.set_cons_succ, i64_w, i32_w]
                        rfl
                      refine one_ (i := 17) (N := none) #[true, true, true, true, true, true, true, true, true, true, true, true, true, true, true, true, true, true] rfl rfl (one_of HT_.out (by kernel_rfl)) (by decide) (fun K hK => ?_)
                      have hs63 : w62.cell? ⟨gb280, 0, none⟩ = some (.int .i64 0) := (blk_cell BK280.out 0).trans rfl
                      have hfs63 := blk_frozen BK280.out 0
                      have hns63_0 := NB263_280.out
                      have hms63_0 := NB280_263.out
                      have hs64 : w62.cell? ⟨gb280, 1, none⟩ = some (.int .i64 0) := (blk_cell BK280.out 1).trans rfl
                      have hfs64 := blk_frozen BK280.out 1
                      have hns64_0 := NB263_280.out
                      have hms64_0 := NB280_263.out
                      refine skip_ (w1 := ?_) (by rfl) rfl ?_ ?_
                      rotate_left
                      · go_simp
                        rfl
                      refine hK.out _ _ ⟨((cell_far (p := ⟨gb280, _, none⟩) NB263_280.out _).trans (((cell_far (p := ⟨gb280, _, none⟩) NB263_280.out _).trans (hHeld.1)))), ((cell_far (p := ⟨gb280, _, none⟩) NB263_280.out _).trans (((cell_far (p := ⟨gb280, _, none⟩) NB263_280.out _).trans (hHeld.2.1)))), ((cell_far (p := ⟨gb280, _, none⟩) (by first | exact Kd.own_blk (Kd.S_away HO_5.out (fun _ hk => hk.2)) | (rw [add_block]; exact Kd.own_blk (Kd.S_away HO_5.out (fun _ hk => hk.2))) | (show (Addr.add _ _).block ≠ _; rw [add_block]; exact Kd.own_blk (Kd.S_away HO_5.out (fun _ hk => hk.2))) | (dsimp only; exact Kd.own_blk (Kd.S_away HO_5.out (fun _ hk => hk.2)))) _).trans (((cell_far (p := ⟨gb280, _, none⟩) (by first | exact Kd.own_blk (Kd.S_away HO_5.out (fun _ hk => hk.2)) | (rw [add_block]; exact Kd.own_blk (Kd.S_away HO_5.out (fun _ hk => hk.2))) | (show (Addr.add _ _).block ≠ _; rw [add_block]; exact Kd.own_blk (Kd.S_away HO_5.out (fun _ hk => hk.2))) | (dsimp only; exact Kd.own_blk (Kd.S_away HO_5.out (fun _ hk => hk.2)))) _).trans (hHeld.2.2.1)))), ((cell_far (p := ⟨gb280, _, none⟩) (by first | exact Nat.ne_of_lt (Nat.lt_of_lt_of_le (by have := World.block_lt_of_cell? _ _ hw278_0; first | rwa [add_block] at this | exact this) GW280.out) | (rw [add_block]; exact Nat.ne_of_lt (Nat.lt_of_lt_of_le (by have := World.block_lt_of_cell? _ _ hw278_0; first | rwa [add_block] at this | exact this) GW280.out)) | (show (Addr.add _ _).block ≠ _; rw [add_block]; exact Nat.ne_of_lt (Nat.lt_of_lt_of_le (by have := World.block_lt_of_cell? _ _ hw278_0; first | rwa [add_block] at this | exact this) GW280.out)) | (dsimp only; exact Nat.ne_of_lt (Nat.lt_of_lt_of_le (by have := World.block_lt_of_cell? _ _ hw278_0; first | rwa [add_block] at this | exact this) GW280.out))) _).trans (((cell_far (p := ⟨gb280, _, none⟩) (by first | exact Nat.ne_of_lt (Nat.lt_of_lt_of_le (by have := World.block_lt_of_cell? _ _ hw278_0; first | rwa [add_block] at this | exact this) GW280.out) | (rw [add_block]; exact Nat.ne_of_lt (Nat.lt_of_lt_of_le (by have := World.block_lt_of_cell? _ _ hw278_0; first | rwa [add_block] at this | exact this) GW280.out)) | (show (Addr.add _ _).block ≠ _; rw [add_block]; exact Nat.ne_of_lt (Nat.lt_of_lt_of_le (by have := World.block_lt_of_cell? _ _ hw278_0; first | rwa [add_block] at this | exact this) GW280.out)) | (dsimp only; exact Nat.ne_of_lt (Nat.lt_of_lt_of_le (by have := World.block_lt_of_cell? _ _ hw278_0; first | rwa [add_block] at this | exact this) GW280.out))) _).trans (hHeld.2.2.2.1)))), ((cell_far (p := ⟨gb280, _, none⟩) (by first | exact Kd.own_blk (Kd.R_away HL277_0.out (fun _ hk => hk.2)) | (rw [add_block]; exact Kd.own_blk (Kd.R_away HL277_0.out (fun _ hk => hk.2))) | (show (Addr.add _ _).block ≠ _; rw [add_block]; exact Kd.own_blk (Kd.R_away HL277_0.out (fun _ hk => hk.2))) | (dsimp only; exact Kd.own_blk (Kd.R_away HL277_0.out (fun _ hk => hk.2)))) _).trans (((cell_far (p := ⟨gb280, _, none⟩) (by first | exact Kd.own_blk (Kd.R_away HL277_0.out (fun _ hk => hk.2)) | (rw [add_block]; exact Kd.own_blk (Kd.R_away HL277_0.out (fun _ hk => hk.2))) | (show (Addr.add _ _).block ≠ _; rw [add_block]; exact Kd.own_blk (Kd.R_away HL277_0.out (fun _ hk => hk.2))) | (dsimp only; exact Kd.own_blk (Kd.R_away HL277_0.out (fun _ hk => hk.2)))) _).trans (hHeld.2.2.2.2.1)))), ((cell_far (p := ⟨gb280, _, none⟩) (by first | exact Kd.own_blk (Kd.R_away HL277_0.out (fun _ hk => hk.2)) | (rw [add_block]; exact Kd.own_blk (Kd.R_away HL277_0.out (fun _ hk => hk.2))) | (show (Addr.add _ _).block ≠ _; rw [add_block]; exact Kd.own_blk (Kd.R_away HL277_0.out (fun _ hk => hk.2))) | (dsimp only; exact Kd.own_blk (Kd.R_away HL277_0.out (fun _ hk => hk.2)))) _).trans (((cell_far (p := ⟨gb280, _, none⟩) (by first | exact Kd.own_blk (Kd.R_away HL277_0.out (fun _ hk => hk.2)) | (rw [add_block]; exact Kd.own_blk (Kd.R_away HL277_0.out (fun _ hk => hk.2))) | (show (Addr.add _ _).block ≠ _; rw [add_block]; exact Kd.own_blk (Kd.R_away HL277_0.out (fun _ hk => hk.2))) | (dsimp only; exact Kd.own_blk (Kd.R_away HL277_0.out (fun _ hk => hk.2)))) _).trans (hHeld.2.2.2.2.2))))⟩ (fun hHeld => ?_)
                      clear hK K
                      refine done_ (done_of HT_.out (by kernel_rfl)) ?_
                      have n0_ : Aside0 (Kd.S (Kd.slice 68 k68) 69 ((w62.setCell ⟨gb280, 0, none⟩ (.int .i64 ((rd_T68 (rd_L7 x5_3 (ji42)) (ji47)).f0))).setCell ⟨gb280, 1, none⟩ (.int .i64 ((rd_T68 (rd_L7 x5_3 (ji42)) (ji47)).f1))) w.heap.size (fun k_ => k_ ≠ gb280) (.slice (some ⟨go17, 0, none⟩) x5_3.length co17) x5_3) := ⟨by (with_reducible repeat (first | apply Kd.S_alloc | apply Kd.S_drewN | apply Kd.S_drew)); exact Kd.S_mono (Kd.S_far (p := ⟨gb280, 1, none⟩) (Kd.S_far (p := ⟨gb280, 0, none⟩) (Kd.S_mono HO_5.out (fun k_ hk => (⟨hk, hk.2⟩ : _ ∧ k_ ≠ gb280))) (fun _ hk => hk.2) (.int .i64 ((rd_T68 (rd_L7 x5_3 (ji42)) (ji47)).f0))) (fun _ hk => hk.2) (.int .i64 ((rd_T68 (rd_L7 x5_3 (ji42)) (ji47)).f1))) (fun _ hk => hk.1.2)⟩
                      have n1_ : Aside0 (Kd.R k68 68 ((w62.setCell ⟨gb280, 0, none⟩ (.int .i64 ((rd_T68 (rd_L7 x5_3 (ji42)) (ji47)).f0))).setCell ⟨gb280, 1, none⟩ (.int .i64 ((rd_T68 (rd_L7 x5_3 (ji42)) (ji47)).f1))) w.heap.size (fun k_ => some k_ ≠ (.slice (some ⟨go17, 0, none⟩) x5_3.length co17 : Value).ownBlock ∧ k_ ≠ gb280) (.slice (some ad279) (rd_L7 x5_3 (ji42)).length c277_0) (rd_L7 x5_3 (ji42))) := ⟨by (with_reducible repeat (first | apply Kd.R_alloc | apply Kd.R_drewN | apply Kd.R_drew)); exact Kd.R_mono (Kd.R_far (p := ⟨gb280, 1, none⟩) (Kd.R_far (p := ⟨gb280, 0, none⟩) (Kd.R_mono HL277_0.out (fun k_ hk => (⟨hk, hk.2⟩ : _ ∧ k_ ≠ gb280))) (fun _ hk => hk.2) (.int .i64 ((rd_T68 (rd_L7 x5_3 (ji42)) (ji47)).f0))) (fun _ hk => hk.2) (.int .i64 ((rd_T68 (rd_L7 x5_3 (ji42)) (ji47)).f1))) (fun _ hk => ⟨hk.1.1.2, hk.1.2⟩)⟩
                      have n2_ : Aside0 (((w62.setCell ⟨gb280, 0, none⟩ (.int .i64 ((rd_T68 (rd_L7 x5_3 (ji42)) (ji47)).f0))).setCell ⟨gb280, 1, none⟩ (.int .i64 ((rd_T68 (rd_L7 x5_3 (ji42)) (ji47)).f1))).heap[gb263]? = some (.cells #[.slice (some ad278) l0_0.length c0_0, .slice A0_1 l0_1.length c0_1] 55 (0, 0))) := ⟨by (with_reducible repeat (first | refine blk_drewN ?_ _ | refine blk_drew ?_ | refine blk_alloc ?_ _)); refine blk_far ?_ NB263_280.out _; (with_reducible repeat (first | refine blk_drewN ?_ _ | refine blk_drew ?_ | refine blk_alloc ?_ _)); refine blk_far ?_ NB263_280.out _; (with_reducible repeat (first | refine blk_drewN ?_ _ | refine blk_drew ?_ | refine blk_alloc ?_ _)); exact BK263.out⟩
                      have n3_ : Aside0 (((w62.setCell ⟨gb280, 0, none⟩ (.int .i64 ((rd_T68 (rd_L7 x5_3 (ji42)) (ji47)).f0))).setCell ⟨gb280, 1, none⟩ (.int .i64 ((rd_T68 (rd_L7 x5_3 (ji42)) (ji47)).f1))).heap[gb280]? = some (.cells #[.int .i64 ((rd_T68 (rd_L7 x5_3 (ji42)) (ji47)).f0), .int .i64 ((rd_T68 (rd_L7 x5_3 (ji42)) (ji47)).f1)] 68 (0, 0))) := ⟨by (with_reducible repeat (first | refine blk_drewN ?_ _ | refine blk_drew ?_ | refine blk_alloc ?_ _)); refine blk_put (cs := #[.int .i64 ((rd_T68 (rd_L7 x5_3 (ji42)) (ji47)).f0), .int .i64 0]) ?_ 1 _ rfl; (with_reducible repeat (first | refine blk_drewN ?_ _ | refine blk_drew ?_ | refine blk_alloc ?_ _)); refine blk_put (cs := #[.int .i64 0, .int .i64 0]) ?_ 0 _ rfl; (with_reducible repeat (first | refine blk_drewN ?_ _ | refine blk_drew ?_ | refine blk_alloc ?_ _)); exact BK280.out⟩
                      have n4_ : Aside0 (Below w.heap.size w ((w62.setCell ⟨gb280, 0, none⟩ (.int .i64 ((rd_T68 (rd_L7 x5_3 (ji42)) (ji47)).f0))).setCell ⟨gb280, 1, none⟩ (.int .i64 ((rd_T68 (rd_L7 x5_3 (ji42)) (ji47)).f1)))) := ⟨by repeat (first | (with_reducible first | exact HB.out | apply below_alloc | apply pw_below_drewN | apply below_drew1 | refine below_set ?_ GE263.out | refine below_set ?_ GE280.out) | exact HB.out)⟩
                      (try clear HO_5)
                      (try clear HL277_0)
                      (try clear BK263)
                      (try clear BK280)
                      (try clear HB)
                      generalize ((w62.setCell ⟨gb280, 0, none⟩ (.int .i64 ((rd_T68 (rd_L7 x5_3 (ji42)) (ji47)).f0))).setCell ⟨gb280, 1, none⟩ (.int .i64 ((rd_T68 (rd_L7 x5_3 (ji42)) (ji47)).f1))) = w65 at n0_ n1_ n2_ n3_ n4_ ⊢
                      have HO_5 := n0_
                      have HL277_0 := n1_
                      have BK263 := n2_
                      have BK280 := n3_
                      have HB := n4_
                      clear n0_ n1_ n2_ n3_ n4_
                      have hnb66 := NB280_263.out
                      have hnc66 := NB263_280.out
                      have hcz67_0 : w65.cell? ⟨gb280, 0, none⟩ = some (.int .i64 ((rd_T68 (rd_L7 x5_3 (ji42)) (ji47)).f0)) := (blk_cell BK280.out 0).trans rfl
                      have hcz67_1 : w65.cell? ⟨gb280, 1, none⟩ = some (.int .i64 ((rd_T68 (rd_L7 x5_3 (ji42)) (ji47)).f1)) := (blk_cell BK280.out 1).trans rfl
                      have hfz67_0 := blk_frozen BK280.out 0
                      have hfz67_1 := blk_frozen BK280.out 1
                      have p281 : 0 ≤ (x6_1 : Int) := of_decide_eq_true (by first | (with_reducible assumption) | assumption)
                      have q281 : x6_1 < (x5_3.length : Int) := of_decide_eq_true (by first | (with_reducible assumption) | assumption)
                      obtain ⟨ad281, A281_0, c281_0, e281, hx281_0, hl281_0, hi281_0⟩ := at_L7 (Kd.S_reads' HO_5.out).2.2 x6_1 p281 q281
                      obtain rfl : (⟨go17, 0, none⟩ : Addr) = ad281 := (by injection e281)
                      obtain ⟨ce281, hce281, hMe281, hcc281⟩ := Kd.S_get HO_5.out [] x6_1 p281 (by first | exact q281 | exact of_decide_eq_true (by first | (with_reducible assumption) | assumption) | (have e_ := (Kd.S_reads' HO_5.out).1; omega))
                      obtain ⟨ve281_0, rfl, ge281_0⟩ := hMe281
                      have hv281_0 := hcc281 0 _ rfl
                      rw [Nat.add_zero, show ((Kd.slice 68 k68)).sz = 1 from rfl, Nat.mul_one] at hv281_0
                      replace hv281_0 := Option.some.inj (hv281_0.symm.trans hx281_0)
                      rw [hv281_0] at ge281_0
                      have HL281_0 := Aside0.mk (show Kd.R k68 68 _ _ _ _ (rd_L7 x5_3 x6_1) from ge281_0)
                      clear hv281_0 ge281_0
                      have HX281_0 := Aside0.mk hx281_0
                      clear hcc281 hce281
                      (first | simp only [add_plain] at hx281_0 | simp only [add_at] at hx281_0 | simp only [Addr.add, Nat.zero_add] at hx281_0 | skip)
                      have HR281_0 := Aside0.mk hi281_0
                      have HC281_0 := Aside0.mk hl281_0
                      clear hi281_0 hl281_0
                      replace p281 := eq_true p281
                      replace q281 := eq_true q281
                      have p282 : 0 ≤ (x42_2 : Int) := of_decide_eq_true (by first | (with_reducible assumption) | assumption)
                      have q282 : x42_2 < ((rd_L7 x5_3 x6_1).length : Int) := of_decide_eq_true (by first | (with_reducible assumption) | assumption)
                      obtain ⟨ad282, e282, hx282_0, hx282_1⟩ := at_T68 (by repeat (first | (with_reducible exact HR281_0.out) | (with_reducible refine Kd.C_alloc ?_ _) | (with_reducible refine Kd.C_drewN ?_ _) | (with_reducible refine Kd.C_drew ?_) | exact HR281_0.out)) x42_2 p282 q282
                      cases e282
                      replace p282 := eq_true p282
                      replace q282 := eq_true q282
                      go_upto_region 17 with (first | ((with_reducible refine gate_dst (N := 10) rfl ?_); refine box_event ?hg (N := 10) ?hd (cs := #[.int .i64 0, .int .i64 0]) (t := 68) ?hr ?_; (case hd => rfl); (case hg => rfl); (case hr => first | (go_simp; done) | (go_simp; rfl)); intro gb283 hg w68 hbox hb; have n0_ := Aside0.mk (Kd.S_below (Kd.S_elderB (by (with_reducible repeat (first | apply Kd.S_alloc | apply Kd.S_drewN | apply Kd.S_drew)); exact HO_5.out) gb283 (Nat.le_of_eq hg.symm)) hb); have n1_ := Aside0.mk (Kd.R_below (Kd.R_elderB (by (with_reducible repeat (first | apply Kd.R_alloc | apply Kd.R_drewN | apply Kd.R_drew)); exact HL277_0.out) gb283 (Nat.le_of_eq hg.symm)) hb); have n2_ := Aside0.mk (Kd.R_below (Kd.R_elderB (by (with_reducible repeat (first | apply Kd.R_alloc | apply Kd.R_drewN | apply Kd.R_drew)); exact HL281_0.out) gb283 (Nat.le_of_eq hg.symm)) hb); have n3_ := Aside0.mk (blk_below (g := gb263) (o := .cells #[.slice (some ad278) l0_0.length c0_0, .slice A0_1 l0_1.length c0_1] 55 (0, 0)) (by (with_reducible repeat (first | refine blk_drewN ?_ _ | refine blk_drew ?_ | refine blk_alloc ?_ _)); exact BK263.out) hb); have n4_ := Aside0.mk (blk_below (g := gb280) (o := .cells #[.int .i64 ((rd_T68 (rd_L7 x5_3 (ji42)) (ji47)).f0), .int .i64 ((rd_T68 (rd_L7 x5_3 (ji42)) (ji47)).f1)] 68 (0, 0)) (by (with_reducible repeat (first | refine blk_drewN ?_ _ | refine blk_drew ?_ | refine blk_alloc ?_ _)); exact BK280.out) hb); have n5_ := Aside0.mk (Kd.C_below (by repeat (first | (with_reducible exact HR281_0.out) | (with_reducible refine Kd.C_alloc ?_ _) | (with_reducible refine Kd.C_drewN ?_ _) | (with_reducible refine Kd.C_drew ?_) | exact HR281_0.out)) hb); have n6_ := Aside0.mk (pw_cell_below hb HX281_0.out); have n7_ := Aside0.mk (below_step (by repeat (first | (with_reducible first | exact HB.out | apply below_alloc | apply pw_below_drewN | apply below_drew1 | refine below_set ?_ GE263.out | refine below_set ?_ GE280.out) | exact HB.out)) hb); have n8_ := Aside0.mk (hbox); have n9_ := Aside0.mk ((by rw [hg]; exact (below_size (by repeat (first | (with_reducible first | exact HB.out | apply below_alloc | apply pw_below_drewN | apply below_drew1 | refine below_set ?_ GE263.out | refine below_set ?_ GE280.out) | exact HB.out))) : w.heap.size ≤ gb283)); have n10_ := Aside0.mk ((by rw [hg]; exact (below_size (by repeat (first | (with_reducible first | exact HB.out | apply below_alloc | apply pw_below_drewN | apply below_drew1 | refine below_set ?_ GE263.out | refine below_set ?_ GE280.out) | exact HB.out))) : w.heap.size ≤ gb283)); have n11_ := Aside0.mk ((by rw [hg]; exact Nat.ne_of_lt (blk_lt (g := gb263) (o := .cells #[.slice (some ad278) l0_0.length c0_0, .slice A0_1 l0_1.length c0_1] 55 (0, 0)) (by (with_reducible repeat (first | refine blk_drewN ?_ _ | refine blk_drew ?_ | refine blk_alloc ?_ _)); exact BK263.out)) : gb263 ≠ gb283)); have n12_ := Aside0.mk ((by rw [hg]; exact Nat.ne_of_gt (blk_lt (g := gb263) (o := .cells #[.slice (some ad278) l0_0.length c0_0, .slice A0_1 l0_1.length c0_1] 55 (0, 0)) (by (with_reducible repeat (first | refine blk_drewN ?_ _ | refine blk_drew ?_ | refine blk_alloc ?_ _)); exact BK263.out)) : gb283 ≠ gb263)); have n13_ := Aside0.mk ((by rw [hg]; exact Nat.ne_of_lt (blk_lt (g := gb280) (o := .cells #[.int .i64 ((rd_T68 (rd_L7 x5_3 (ji42)) (ji47)).f0), .int .i64 ((rd_T68 (rd_L7 x5_3 (ji42)) (ji47)).f1)] 68 (0, 0)) (by (with_reducible repeat (first | refine blk_drewN ?_ _ | refine blk_drew ?_ | refine blk_alloc ?_ _)); exact BK280.out)) : gb280 ≠ gb283)); have n14_ := Aside0.mk ((by rw [hg]; exact Nat.ne_of_gt (blk_lt (g := gb280) (o := .cells #[.int .i64 ((rd_T68 (rd_L7 x5_3 (ji42)) (ji47)).f0), .int .i64 ((rd_T68 (rd_L7 x5_3 (ji42)) (ji47)).f1)] 68 (0, 0)) (by (with_reducible repeat (first | refine blk_drewN ?_ _ | refine blk_drew ?_ | refine blk_alloc ?_ _)); exact BK280.out)) : gb283 ≠ gb280)); clear HO_5; clear HL277_0; clear HL281_0; clear BK263; clear BK280; clear HR281_0; clear HX281_0; clear HB; have HO_5 := n0_; have HL277_0 := n1_; have HL281_0 := n2_; have BK263 := n3_; have BK280 := n4_; have HR281_0 := n5_; have HX281_0 := n6_; have HB := n7_; have BK283 := n8_; have GW283 := n9_; have GE283 := n10_; have NB263_283 := n11_; have NB283_263 := n12_; have NB280_283 := n13_; have NB283_280 := n14_; clear n0_ n1_ n2_ n3_ n4_ n5_ n6_ n7_ n8_ n9_ n10_ n11_ n12_ n13_ n14_; clear hb hbox hg; have hnb69 := NB283_263.out; have hnc69 := NB263_283.out; have hnb70 := NB283_280.out; have hnc70 := NB280_283.out; have hcz71_0 : w68.cell? ⟨gb283, 0, none⟩ = some (.int .i64 0) := (blk_cell BK283.out 0).trans rfl; have hcz71_1 : w68.cell? ⟨gb283, 1, none⟩ = some (.int .i64 0) := (blk_cell BK283.out 1).trans rfl; have hfz71_0 := blk_frozen BK283.out 0; have hfz71_1 := blk_frozen BK283.out 1))
                      (try simp only [Act.put, List.setIfInBounds_toArray, List.set_cons_zero, List.set_cons_succ])
                      go_cut [102] (fun v102 wc => ∃ (kq : Nat) (x102_59 : Bool), v102 = .bool x102_59 ∧ Aside0 (impl_purse_table.j4 kq a1 x5_3 x6_1 x42_2 x8_3 ji12 x42_2 x102_59 l0_0 l0_1 ((rd_T68 (rd_L7 x5_3 (ji42)) (ji47)).f0) ((rd_T68 (rd_L7 x5_3 (ji42)) (ji47)).f1) = some r) ∧ Aside0 (kq ≤ kj33) ∧ Aside0 (Kd.S (Kd.slice 68 k68) 69 wc w.heap.size (fun k_ => k_ ≠ gb280 ∧ k_ ≠ gb283) (.slice (some ⟨go17, 0, none⟩) x5_3.length co17) x5_3) ∧ Aside0 (wc.heap[gb263]? = some (.cells #[(.slice (some ad278) l0_0.length c0_0), (.slice A0_1 l0_1.length c0_1)] 55 (0, 0))) ∧ Aside0 (wc.heap[gb280]? = some (.cells #[.int .i64 ((rd_T68 (rd_L7 x5_3 (ji42)) (ji47)).f0), .int .i64 ((rd_T68 (rd_L7 x5_3 (ji42)) (ji47)).f1)] 68 (0, 0))) ∧ Aside0 (wc.heap[gb283]? = some (.cells #[.int .i64 ((rd_T68 (rd_L7 x5_3 x6_1) x42_2).f0), .int .i64 ((rd_T68 (rd_L7 x5_3 x6_1) x42_2).f1)] 68 (0, 0))) ∧ Aside0 (Kd.C k68 wc (some ad282) (rd_L7 x5_3 x6_1).length (rd_L7 x5_3 x6_1)) ∧ Aside0 (Below w.heap.size w wc))
                      case first =>
                        have H := HC60.out
                        clear HC60
                        by_cases c72 : ((rd_T68 (rd_L7 x5_3 x6_1) x42_2).f0) = 0
                        rotate_left
                        · rw [if_neg c72] at H
                          have c72b0 : (((rd_T68 (rd_L7 x5_3 x6_1) x42_2).f0) == 0) = false := beq_eq_false_iff_ne.mpr c72
                          have c72b1 : (((rd_T68 (rd_L7 x5_3 x6_1) x42_2).f0) != 0) = true := bne_iff_ne.mpr c72
                          (first | rw [c72b0] | (simp only [i64_w, i32_w]; rw [c72b0]) | skip)
                          have H' := Aside0.mk H
                          clear H
                          have hnb76 := NB283_263.out
                          have hnc76 := NB263_283.out
                          have hnb77 := NB283_280.out
                          have hnc77 := NB280_283.out
                          have hcz78_0 : w68.cell? ⟨gb283, 0, none⟩ = some (.int .i64 0) := (blk_cell BK283.out 0).trans rfl
                          have hcz78_1 : w68.cell? ⟨gb283, 1, none⟩ = some (.int .i64 0) := (blk_cell BK283.out 1).trans rfl
                          have hfz78_0 := blk_frozen BK283.out 0
                          have hfz78_1 := blk_frozen BK283.out 1
                          have hnb79 := NB280_263.out
                          have hnc79 := NB263_280.out
                          have hcz80_0 : w68.cell? ⟨gb280, 0, none⟩ = some (.int .i64 ((rd_T68 (rd_L7 x5_3 (ji42)) (ji47)).f0)) := (blk_cell BK280.out 0).trans rfl
                          have hcz80_1 : w68.cell? ⟨gb280, 1, none⟩ = some (.int .i64 ((rd_T68 (rd_L7 x5_3 (ji42)) (ji47)).f1)) := (blk_cell BK280.out 1).trans rfl
                          have hfz80_0 := blk_frozen BK280.out 0
                          have hfz80_1 := blk_frozen BK280.out 1
                          go_wp2
                          go_meet
                          case rel => exact ⟨_, (decide ((wrap64 (((rd_T68 (rd_L7 x5_3 (ji42)) (ji47)).f1) + x8_3)) < ((rd_T68 (rd_L7 x5_3 x6_1) x42_2).f1))), (by first | rfl | (simp; done) | (simp only [← hji42, ← hji47] <;> (first | rfl | simp)) | (simp [*]; done)), H', ⟨by have := HK1.out; have := HK2.out; have := HK3.out; have := HJ33.out; first | omega | exact Nat.le_refl _⟩, ⟨by (try simp only [hl5_2]); (try simp only [hl5_3]); (with_reducible repeat (first | apply Kd.S_alloc | apply Kd.S_drewN | apply Kd.S_drew)); exact Kd.S_mono (Kd.S_far (p := ⟨gb283, 1, none⟩) (Kd.S_far (p := ⟨gb283, 0, none⟩) (Kd.S_mono HO_5.out (fun k_ hk => (⟨hk, hk.2⟩ : _ ∧ k_ ≠ gb283))) (fun _ hk => hk.2) (.int .i64 ((rd_T68 (rd_L7 x5_3 x6_1) x42_2).f0))) (fun _ hk => hk.2) (.int .i64 ((rd_T68 (rd_L7 x5_3 x6_1) x42_2).f1))) (fun _ hk => ⟨hk.1.1, hk.1.2⟩)⟩, ⟨by (try simp only [hl5_2]); (try simp only [hl5_3]); (with_reducible repeat (first | refine blk_drewN ?_ _ | refine blk_drew ?_ | refine blk_alloc ?_ _)); refine blk_far ?_ NB263_283.out _; (with_reducible repeat (first | refine blk_drewN ?_ _ | refine blk_drew ?_ | refine blk_alloc ?_ _)); refine blk_far ?_ NB263_283.out _; (with_reducible repeat (first | refine blk_drewN ?_ _ | refine blk_drew ?_ | refine blk_alloc ?_ _)); exact BK263.out⟩, ⟨by (try simp only [hl5_2]); (try simp only [hl5_3]); (with_reducible repeat (first | refine blk_drewN ?_ _ | refine blk_drew ?_ | refine blk_alloc ?_ _)); refine blk_far ?_ NB280_283.out _; (with_reducible repeat (first | refine blk_drewN ?_ _ | refine blk_drew ?_ | refine blk_alloc ?_ _)); refine blk_far ?_ NB280_283.out _; (with_reducible repeat (first | refine blk_drewN ?_ _ | refine blk_drew ?_ | refine blk_alloc ?_ _)); exact BK280.out⟩, ⟨by (try simp only [hl5_2]); (try simp only [hl5_3]); (with_reducible repeat (first | refine blk_drewN ?_ _ | refine blk_drew ?_ | refine blk_alloc ?_ _)); refine blk_put (cs := #[.int .i64 ((rd_T68 (rd_L7 x5_3 x6_1) x42_2).f0), .int .i64 0]) ?_ 1 _ rfl; (with_reducible repeat (first | refine blk_drewN ?_ _ | refine blk_drew ?_ | refine blk_alloc ?_ _)); refine blk_put (cs := #[.int .i64 0, .int .i64 0]) ?_ 0 _ rfl; (with_reducible repeat (first | refine blk_drewN ?_ _ | refine blk_drew ?_ | refine blk_alloc ?_ _)); exact BK283.out⟩, ⟨(Kd.R_reads' (by (with_reducible repeat (first | apply Kd.R_alloc | apply Kd.R_drewN | apply Kd.R_drew)); exact (Kd.R_mono (Kd.R_far (p := ⟨gb283, 1, none⟩) (Kd.R_far (p := ⟨gb283, 0, none⟩) (Kd.R_mono HL281_0.out (fun k_ hk => (⟨hk, hk.2⟩ : _ ∧ k_ ≠ gb283))) (fun _ hk => hk.2) (.int .i64 ((rd_T68 (rd_L7 x5_3 x6_1) x42_2).f0))) (fun _ hk => hk.2) (.int .i64 ((rd_T68 (rd_L7 x5_3 x6_1) x42_2).f1))) (fun _ h_ => h_.1)))).2.2⟩, ⟨by repeat (first | (with_reducible first | exact HB.out | apply below_alloc | apply pw_below_drewN | apply below_drew1 | refine below_set ?_ GE263.out | refine below_set ?_ GE280.out | refine below_set ?_ GE283.out) | exact HB.out)⟩⟩
                        rw [if_pos c72] at H
                        have c72b0 : (((rd_T68 (rd_L7 x5_3 x6_1) x42_2).f0) == 0) = true := beq_iff_eq.mpr c72
                        have c72b1 : (((rd_T68 (rd_L7 x5_3 x6_1) x42_2).f0) != 0) = false := bne_eq_false_iff_eq.mpr c72
                        clear c72
                        (first | rw [c72b0] | (simp only [i64_w, i32_w]; rw [c72b0]) | skip)
                        have H' := Aside0.mk H
                        clear H
                        have hnb73 := NB283_263.out
                        have hnc73 := NB263_283.out
                        have hnb74 := NB283_280.out
                        have hnc74 := NB280_283.out
                        have hcz75_0 : w68.cell? ⟨gb283, 0, none⟩ = some (.int .i64 0) := (blk_cell BK283.out 0).trans rfl
                        have hcz75_1 : w68.cell? ⟨gb283, 1, none⟩ = some (.int .i64 0) := (blk_cell BK283.out 1).trans rfl
                        have hfz75_0 := blk_frozen BK283.out 0
                        have hfz75_1 := blk_frozen BK283.out 1
                        go_wp2
                        go_meet
                        case rel => exact ⟨_, (true), (by first | rfl | (simp; done) | (simp [*]; done)), H', ⟨by have := HK1.out; have := HK2.out; have := HK3.out; have := HJ33.out; first | omega | exact Nat.le_refl _⟩, ⟨by (try simp only [hl5_2]); (try simp only [hl5_3]); (with_reducible repeat (first | apply Kd.S_alloc | apply Kd.S_drewN | apply Kd.S_drew)); exact Kd.S_mono (Kd.S_far (p := ⟨gb283, 1, none⟩) (Kd.S_far (p := ⟨gb283, 0, none⟩) (Kd.S_mono HO_5.out (fun k_ hk => (⟨hk, hk.2⟩ : _ ∧ k_ ≠ gb283))) (fun _ hk => hk.2) (.int .i64 ((rd_T68 (rd_L7 x5_3 x6_1) x42_2).f0))) (fun _ hk => hk.2) (.int .i64 ((rd_T68 (rd_L7 x5_3 x6_1) x42_2).f1))) (fun _ hk => ⟨hk.1.1, hk.1.2⟩)⟩, ⟨by (try simp only [hl5_2]); (try simp only [hl5_3]); (with_reducible repeat (first | refine blk_drewN ?_ _ | refine blk_drew ?_ | refine blk_alloc ?_ _)); refine blk_far ?_ NB263_283.out _; (with_reducible repeat (first | refine blk_drewN ?_ _ | refine blk_drew ?_ | refine blk_alloc ?_ _)); refine blk_far ?_ NB263_283.out _; (with_reducible repeat (first | refine blk_drewN ?_ _ | refine blk_drew ?_ | refine blk_alloc ?_ _)); exact BK263.out⟩, ⟨by (try simp only [hl5_2]); (try simp only [hl5_3]); (with_reducible repeat (first | refine blk_drewN ?_ _ | refine blk_drew ?_ | refine blk_alloc ?_ _)); refine blk_far ?_ NB280_283.out _; (with_reducible repeat (first | refine blk_drewN ?_ _ | refine blk_drew ?_ | refine blk_alloc ?_ _)); refine blk_far ?_ NB280_283.out _; (with_reducible repeat (first | refine blk_drewN ?_ _ | refine blk_drew ?_ | refine blk_alloc ?_ _)); exact BK280.out⟩, ⟨by (try simp only [hl5_2]); (try simp only [hl5_3]); (with_reducible repeat (first | refine blk_drewN ?_ _ | refine blk_drew ?_ | refine blk_alloc ?_ _)); refine blk_put (cs := #[.int .i64 ((rd_T68 (rd_L7 x5_3 x6_1) x42_2).f0), .int .i64 0]) ?_ 1 _ rfl; (with_reducible repeat (first | refine blk_drewN ?_ _ | refine blk_drew ?_ | refine blk_alloc ?_ _)); refine blk_put (cs := #[.int .i64 0, .int .i64 0]) ?_ 0 _ rfl; (with_reducible repeat (first | refine blk_drewN ?_ _ | refine blk_drew ?_ | refine blk_alloc ?_ _)); exact BK283.out⟩, ⟨(Kd.R_reads' (by (with_reducible repeat (first | apply Kd.R_alloc | apply Kd.R_drewN | apply Kd.R_drew)); exact (Kd.R_mono (Kd.R_far (p := ⟨gb283, 1, none⟩) (Kd.R_far (p := ⟨gb283, 0, none⟩) (Kd.R_mono HL281_0.out (fun k_ hk => (⟨hk, hk.2⟩ : _ ∧ k_ ≠ gb283))) (fun _ hk => hk.2) (.int .i64 ((rd_T68 (rd_L7 x5_3 x6_1) x42_2).f0))) (fun _ hk => hk.2) (.int .i64 ((rd_T68 (rd_L7 x5_3 x6_1) x42_2).f1))) (fun _ h_ => h_.1)))).2.2⟩, ⟨by repeat (first | (with_reducible first | exact HB.out | apply below_alloc | apply pw_below_drewN | apply below_drew1 | refine below_set ?_ GE263.out | refine below_set ?_ GE280.out | refine below_set ?_ GE283.out) | exact HB.out)⟩⟩
                      case rest =>
                        clear HC60
                        try clear c2
                        try clear p2
                        try clear q2
                        try clear hx2
                        try clear c5
                        try clear c6
                        try clear p6
                        try clear c7
                        try clear c27
                        try clear p27
                        try clear q27
                        try clear hx27
                        try clear c28
                        try clear p28
                        try clear q28
                        try clear hx28
                        try clear c50
                        try clear c50b0
                        try clear c50b1
                        try clear c55
                        try clear c57
                        try clear c57b0
                        try clear c58
                        try clear c58b0
                        try clear c59
                        try clear c59b0
                        try clear p64
                        try clear c66
                        try clear c69
                        try clear c70
                        try clear c72
                        try clear c72b0
                        try clear c72b1
                        try clear c73
                        try clear c74
                        try clear c76
                        try clear c77
                        try clear c79
                        try clear hcz56_0
                        try clear hcz56_1
                        try clear hcz67_0
                        try clear hcz67_1
                        try clear hcz71_0
                        try clear hcz71_1
                        try clear hcz75_0
                        try clear hcz75_1
                        try clear hcz78_0
                        try clear hcz78_1
                        try clear hcz80_0
                        try clear hcz80_1
                        try clear hfz56_0
                        try clear hfz56_1
                        try clear hfz67_0
                        try clear hfz67_1
                        try clear hfz71_0
                        try clear hfz71_1
                        try clear hfz75_0
                        try clear hfz75_1
                        try clear hfz78_0
                        try clear hfz78_1
                        try clear hfz80_0
                        try clear hfz80_1
                        try clear hx277_0
                        try clear hx278_0
                        try clear hx279_0
                        try clear hx279_1
                        try clear hx281_0
                        try clear hx282_0
                        try clear hx282_1
                        try clear p277
                        try clear p278
                        try clear p279
                        try clear p281
                        try clear p282
                        try clear q277
                        try clear q278
                        try clear q279
                        try clear q281
                        try clear q282
                        obtain ⟨kq, x102_59, rfl, HA, HJ59, HO_5, BK263, BK280, BK283, HR281_0, HB⟩ := hcut
                        cases kq with
                        | zero => exact absurd HA.out (by simp [impl_purse_table.j4])
                        | succ kj59 =>
                          have H := HA.out
                          clear HA
                          simp only [impl_purse_table.j4] at H
                          by_cases c81 : x102_59 = true
                          rotate_left
                          · replace c81 := Bool.eq_false_iff.mpr c81
                            subst c81
                            have H1 : (if 0 ≤ x6_1 then (if x6_1 < (x5_3.length : Int) then (if 0 ≤ x42_2 then (if x42_2 < ((rd_L7 x5_3 x6_1).length : Int) then (impl_purse_table.l2 kj59 a1 (x5_3.set (x6_1 : Int).toNat ((rd_L7 x5_3 x6_1).set (x42_2 : Int).toNat (⟨wrap64 (((rd_T68 (rd_L7 x5_3 x6_1) x42_2).f0) + ((rd_T68 (rd_L7 x5_3 (ji42)) (ji47)).f0)), (rd_T68 (rd_L7 x5_3 x6_1) x42_2).f1⟩ : S68))) x6_1 x42_2 (wrap64 (x8_3 + 1)) ji12 x42_2 l0_0 l0_1) else (none)) else (none)) else (none)) else (none)) = some r := by rw [if_neg (show ¬ (false = true) by decide)] at H; exact H
                            clear H
                            have H := H1
                            clear H1
                            by_cases c96 : 0 ≤ x6_1
                            rotate_left
                            · rw [if_neg c96] at H
                              exact absurd H (by simp)
                            rw [if_pos c96] at H
                            have c96b0 : decide (0 ≤ x6_1) = true := decide_eq_true c96
                            clear c96
                            by_cases c97 : x6_1 < (x5_3.length : Int)
                            rotate_left
                            · rw [if_neg c97] at H
                              exact absurd H (by simp)
                            rw [if_pos c97] at H
                            have c97b0 : decide (x6_1 < (x5_3.length : Int)) = true := decide_eq_true c97
                            clear c97
                            by_cases c98 : 0 ≤ x42_2
                            rotate_left
                            · rw [if_neg c98] at H
                              exact absurd H (by simp)
                            rw [if_pos c98] at H
                            have c98b0 : decide (0 ≤ x42_2) = true := decide_eq_true c98
                            clear c98
                            by_cases c99 : x42_2 < ((rd_L7 x5_3 x6_1).length : Int)
                            rotate_left
                            · rw [if_neg c99] at H
                              exact absurd H (by simp)
                            rw [if_pos c99] at H
                            have c99b0 : decide (x42_2 < ((rd_L7 x5_3 x6_1).length : Int)) = true := decide_eq_true c99
                            clear c99
                            obtain ⟨y295, hy295⟩ : ∃ y_ : List (S68), y_ = ((rd_L7 x5_3 x6_1).set (x42_2 : Int).toNat (⟨wrap64 (((rd_T68 (rd_L7 x5_3 x6_1) x42_2).f0) + ((rd_T68 (rd_L7 x5_3 (ji42)) (ji47)).f0)), (rd_T68 (rd_L7 x5_3 x6_1) x42_2).f1⟩ : S68)) := ⟨_, rfl⟩
                            replace H : (impl_purse_table.l2 kj59 a1 (x5_3.set (x6_1 : Int).toNat y295) x6_1 x42_2 (wrap64 (x8_3 + 1)) ji12 x42_2 l0_0 l0_1) = some r := by first | (rw [hy295]; with_reducible exact H) | (have H2_ := (Option.bind_some _ _).symm.trans H; rw [hy295]; with_reducible exact H2_) | (have H2_ := (Option.bind_some _ _).symm.trans H; with_reducible exact H2_) | with_reducible exact H | (rw [hy295]; exact H) | exact H
                            have Ny295 := Aside0.mk hy295
                            clear hy295
                            obtain ⟨y297, hy297⟩ : ∃ y_ : List (List (S68)), y_ = (x5_3.set (x6_1 : Int).toNat y295) := ⟨_, rfl⟩
                            replace H : (impl_purse_table.l2 kj59 a1 y297 x6_1 x42_2 (wrap64 (x8_3 + 1)) ji12 x42_2 l0_0 l0_1) = some r := by first | (rw [hy297]; with_reducible exact H) | (have H2_ := (Option.bind_some _ _).symm.trans H; rw [hy297]; with_reducible exact H2_) | (have H2_ := (Option.bind_some _ _).symm.trans H; with_reducible exact H2_) | with_reducible exact H | (rw [hy297]; exact H) | exact H
                            have Ny297 := Aside0.mk hy297
                            clear hy297
                            have H' := Aside0.mk H
                            clear H
                            try go_wp2
                            have n0_ := Aside0.mk (Kd.S_drew HO_5.out)
                            have n1_ := Aside0.mk (blk_drew BK263.out)
                            have n2_ := Aside0.mk (blk_drew BK280.out)
                            have n3_ := Aside0.mk (blk_drew BK283.out)
                            have n4_ := Aside0.mk (Kd.C_drew HR281_0.out)
                            have n5_ := Aside0.mk (below_drew1 HB.out)
                            clear HO_5
                            clear BK263
                            clear BK280
                            clear BK283
                            clear HR281_0
                            clear HB
                            have HO_5 := n0_
                            have BK263 := n1_
                            have BK280 := n2_
                            have BK283 := n3_
                            have HR281_0 := n4_
                            have HB := n5_
                            clear n0_ n1_ n2_ n3_ n4_ n5_
                            have p293 : 0 ≤ (x6_1 : Int) := of_decide_eq_true (by first | (with_reducible assumption) | assumption)
                            have q293 : x6_1 < (x5_3.length : Int) := of_decide_eq_true (by first | (with_reducible assumption) | assumption)
                            obtain ⟨ad293, A293_0, c293_0, e293, hx293_0, hl293_0, hi293_0⟩ := at_L7 (Kd.S_reads' HO_5.out).2.2 x6_1 p293 q293
                            obtain rfl : (⟨go17, 0, none⟩ : Addr) = ad293 := (by injection e293)
                            obtain ⟨ce293, hce293, hMe293, hcc293⟩ := Kd.S_get HO_5.out [] x6_1 p293 (by first | exact q293 | exact of_decide_eq_true (by first | (with_reducible assumption) | assumption) | (have e_ := (Kd.S_reads' HO_5.out).1; omega))
                            obtain ⟨ve293_0, rfl, ge293_0⟩ := hMe293
                            have hv293_0 := hcc293 0 _ rfl
                            rw [Nat.add_zero, show ((Kd.slice 68 k68)).sz = 1 from rfl, Nat.mul_one] at hv293_0
                            replace hv293_0 := Option.some.inj (hv293_0.symm.trans hx293_0)
                            rw [hv293_0] at ge293_0
                            have HL293_0 := Aside0.mk (show Kd.R k68 68 _ _ _ _ (rd_L7 x5_3 x6_1) from ge293_0)
                            clear hv293_0 ge293_0
                            have HX293_0 := Aside0.mk hx293_0
                            clear hcc293 hce293
                            (first | simp only [add_plain] at hx293_0 | simp only [add_at] at hx293_0 | simp only [Addr.add, Nat.zero_add] at hx293_0 | skip)
                            have HR293_0 := Aside0.mk hi293_0
                            have HC293_0 := Aside0.mk hl293_0
                            clear hi293_0 hl293_0
                            replace p293 := eq_true p293
                            replace q293 := eq_true q293
                            have p294 : 0 ≤ (x42_2 : Int) := of_decide_eq_true (by first | (with_reducible assumption) | assumption)
                            have q294 : x42_2 < ((rd_L7 x5_3 x6_1).length : Int) := of_decide_eq_true (by first | (with_reducible assumption) | assumption)
                            obtain ⟨ad294, e294, hx294_0, hx294_1⟩ := at_T68 (by repeat (first | (with_reducible exact HR293_0.out) | (with_reducible refine Kd.C_alloc ?_ _) | (with_reducible refine Kd.C_drewN ?_ _) | (with_reducible refine Kd.C_drew ?_) | exact HR293_0.out)) x42_2 p294 q294
                            cases e294
                            replace p294 := eq_true p294
                            replace q294 := eq_true q294
                            have p100 : 0 ≤ (x42_2 : Int) := of_decide_eq_true (by first | (with_reducible assumption) | assumption)
                            have q100 : (x42_2 : Int) < (((rd_L7 x5_3 x6_1).length : Int) : Int) := of_decide_eq_true (by first | (with_reducible assumption) | assumption)
                            obtain ⟨go100, co100, eo100, gb100, gl100, cl100, HG100⟩ := Kd.R_form HL293_0.out (by omega)
                            (first | cases eo100 | (injection eo100 with ea_ en_ ec_; (first | subst ea_ | (injection ea_ with ea_; subst ea_)); subst ec_; clear en_))
                            have GB100 := Aside0.mk gb100
                            have GG100 := Aside0.mk HG100
                            clear gb100 gl100 HG100
                            (first | simp only [add_plain] at hx294_0 | skip)
                            (first | simp only [add_plain] at hx294_1 | skip)
                            obtain ⟨ce100, hcl100, hM100, hcc100, hfr100⟩ := Kd.R_elem HL293_0.out z68 (x42_2 : Int) p100 q100
                            obtain rfl := k68_openM hM100
                            have hx100_0 : World.cell? _ ⟨go100, (x42_2 : Int).toNat * 2, none⟩ = some (.int .i64 ((rd_T68 (rd_L7 x5_3 x6_1) x42_2).f0)) := hcc100 0 _ rfl
                            have hx100_1 : World.cell? _ ⟨go100, (x42_2 : Int).toNat * 2 + 1, none⟩ = some (.int .i64 ((rd_T68 (rd_L7 x5_3 x6_1) x42_2).f1)) := hcc100 1 _ rfl
                            have hf100_0 : World.frozen? _ ⟨go100, (x42_2 : Int).toNat * 2, none⟩ = false := hfr100 0
                            have hf100_1 : World.frozen? _ ⟨go100, (x42_2 : Int).toNat * 2 + 1, none⟩ = false := hfr100 1
                            clear hcl100 hcc100 hfr100 hM100
                            replace p100 := eq_true p100
                            replace q100 := eq_true q100
                            have hq102 : (x6_1 : Int) < (x5_3.length : Int) := (by have h_ : (x6_1 : Int) < ((x5_3.length : Int) : Int) := of_decide_eq_true (by first | (with_reducible assumption) | assumption); first | exact h_ | (have e_ := (Kd.S_reads' HO_5.out).1; omega) | simpa only [List.length_set, List.length_set] using h_)
                            obtain ⟨oki102, ce102, hcl102, hM102, hcc102, hok102, hbk102⟩ := Kd.S_borrow HO_5.out [] (x6_1 : Int) (of_decide_eq_true (by first | (with_reducible assumption) | assumption)) (by first | exact hq102 | (have e_ := (Kd.S_reads' HO_5.out).1; omega))
                            obtain ⟨ve102_0, rfl, ge102_0⟩ := id hM102
                            have hv102 := hcc102 0 _ rfl
                            rw [Nat.add_zero, show ((Kd.slice 68 k68)).sz = 1 from rfl, Nat.mul_one] at hv102
                            replace hv102 := Option.some.inj (hv102.symm.trans HX293_0.out)
                            subst hv102
                            clear hcc102 hcl102
                            replace ge102_0 := (show Kd.R k68 68 _ _ _ _ (rd_L7 x5_3 x6_1) from ge102_0)
                            obtain ⟨cf102, hcl102, hN102, hcc102, hfr102⟩ := Kd.R_elem ge102_0 z68 (x42_2 : Int) (of_decide_eq_true (by first | (with_reducible assumption) | assumption)) (by have h_ : (x42_2 : Int) < (((rd_L7 x5_3 x6_1).length : Int) : Int) := of_decide_eq_true (by first | (with_reducible assumption) | assumption); first | exact h_ | (have e_ := (Kd.R_reads' HR293_0.out).1; omega) | simpa using h_)
                            obtain rfl := k68_openM hN102
                            have HP102 := Kd.R_seg ge102_0 (x42_2 : Int) (of_decide_eq_true (by first | (with_reducible assumption) | assumption)) (by have h_ : (x42_2 : Int) < (((rd_L7 x5_3 x6_1).length : Int) : Int) := of_decide_eq_true (by first | (with_reducible assumption) | assumption); first | exact h_ | (have e_ := (Kd.R_reads' HR293_0.out).1; omega) | simpa using h_) (seg := [.int .i64 (wrap64 (((rd_T68 (rd_L7 x5_3 x6_1) x42_2).f0) + ((rd_T68 (rd_L7 x5_3 (ji42)) (ji47)).f0)))]) (j := 0) hcl102 hcc102 (show 1 ≤ 2 from by decide) (x' := (⟨wrap64 (((rd_T68 (rd_L7 x5_3 x6_1) x42_2).f0) + ((rd_T68 (rd_L7 x5_3 (ji42)) (ji47)).f0)), (rd_T68 (rd_L7 x5_3 x6_1) x42_2).f1⟩ : S68)) (k68_mkM _ _ _ (⟨wrap64 (((rd_T68 (rd_L7 x5_3 x6_1) x42_2).f0) + ((rd_T68 (rd_L7 x5_3 (ji42)) (ji47)).f0)), (rd_T68 (rd_L7 x5_3 x6_1) x42_2).f1⟩ : S68)) (fun _ hk => hk)
                            clear hcl102 hcc102 hfr102 hN102
                            rw [← Ny295.out] at HP102
                            have HS102 := hbk102 HP102.2 (fun k_ e_ => by injection e_ with e_; subst e_; exact ge102_0.1 _ rfl) (x' := y295) (Kd.M_row HP102.1)
                            rw [← Ny297.out] at HS102
                            have HQ102 := Aside0.mk HS102
                            clear HP102 HS102 hbk102 hok102
                            refine start_ (n := 14) (S := fun w' => w'.cell? ⟨gb280, 0, none⟩ = some (.int .i64 ((rd_T68 (rd_L7 x5_3 (ji42)) (ji47)).f0)) ∧ w'.cell? ⟨gb280, 1, none⟩ = some (.int .i64 ((rd_T68 (rd_L7 x5_3 (ji42)) (ji47)).f1)) ∧ w'.cell? ⟨go17, (x6_1).toNat, none⟩ = some (.slice (some ⟨go100, 0, none⟩) (rd_L7 x5_3 x6_1).length c293_0) ∧ w'.cell? ⟨go100, ((x42_2).toNat * 2), none⟩ = some (.int .i64 ((rd_T68 (rd_L7 x5_3 x6_1) x42_2).f0)) ∧ w'.cell? ⟨go100, ((x42_2).toNat * 2) + 1, none⟩ = some (.int .i64 ((rd_T68 (rd_L7 x5_3 x6_1) x42_2).f1))) (ds := [13]) #[false, false, false, false, false, false, false, false, false, false, false, false, false, false] (by kernel_rfl) rfl rfl ⟨(blk_cell BK280.out 0).trans rfl, (blk_cell BK280.out 1).trans rfl, hx293_0, hx294_0, hx294_1⟩ (fun hHeld => ?_); refine with_tabW impl_purse_table.tab19 impl_purse_table.bits19 (fun HT_ HW_ => ?_)
                            generalize wc.drew = w101 at HO_5 BK263 BK280 BK283 HR281_0 HB GG100 HL293_0 HQ102 HR293_0 HX293_0 hf100_0 hf100_1 hx100_0 hx100_1 hx293_0 hx294_0 hx294_1 hHeld ⊢
                            refine pure_ (i := 0) (N := some 114) (v := ?_) (a' := ?_) #[true, false, false, false, false, false, false, false, false, false, false, false, false, false] rfl rfl (any_of HT_.out (by kernel_rfl)) (fun _ _ _ h => h) (Or.inl ⟨by rfl, ?_⟩) ?_ ?_
                            rotate_left
                            · intro w'
                              go_simp
                              with_reducible rfl
                            rotate_left
                            · simp only [Act.put, List.setIfInBounds_toArray, List.set_cons_zero, List.set_cons_succ, i64_w, i32_w]
                              rfl
                            refine pure_ (i := 1) (N := some 115) (v := ?_) (a' := ?_) #[true, true, false, false, false, false, false, false, false, false, false, false, false, false] rfl rfl (any_of HT_.out (by kernel_rfl)) (fun _ _ _ h => h) (Or.inl ⟨by rfl, ?_⟩) ?_ ?_
                            rotate_left
                            · intro w'
                              go_simp
                              with_reducible rfl
                            rotate_left
                            · simp only [Act.put, List.setIfInBounds_toArray, List.set_cons_zero, List.set_cons_succ, i64_w, i32_w]
                              rfl
                            refine pure_ (i := 2) (N := some 116) (v := ?_) (a' := ?_) #[true, true, true, false, false, false, false, false, false, false, false, false, false, false] rfl rfl (any_of HT_.out (by kernel_rfl)) (fun _ _ _ h => h) (Or.inl ⟨by rfl, ?_⟩) ?_ ?_
                            rotate_left
                            · intro w'
                              go_simp
                              with_reducible rfl
                            rotate_left
                            · simp only [Act.put, List.setIfInBounds_toArray, List.set_cons_zero, List.set_cons_succ, i64_w, i32_w]
                              rfl
                            refine pure_ (i := 4) (N := some 118) (v := ?_) (a' := ?_) #[true, true, true, false, true, false, false, false, false, false, false, false, false, false] rfl rfl (any_of HT_.out (by kernel_rfl)) (fun _ _ _ h => h) (Or.inl ⟨by rfl, ?_⟩) ?_ ?_
                            rotate_left
                            · intro w'
                              go_simp
                              with_reducible rfl
                            rotate_left
                            · simp only [Act.put, List.setIfInBounds_toArray, List.set_cons_zero, List.set_cons_succ, i64_w, i32_w]
                              rfl
                            refine pure_ (i := 8) (N := some 122) (v := ?_) (a' := ?_) #[true, true, true, false, true, false, false, false, true, false, false, false, false, false] rfl rfl (any_of HT_.out (by kernel_rfl)) (fun _ _ _ h => h) (Or.inl ⟨by rfl, ?_⟩) ?_ ?_
                            rotate_left
                            · intro w'
                              go_simp
                              with_reducible rfl
                            rotate_left
                            · simp only [Act.put, List.setIfInBounds_toArray, List.set_cons_zero, List.set_cons_succ, i64_w, i32_w]
                              rfl
                            refine take_ (i := 3) (N := some 117) (v := ?_) (a' := ?_) #[true, true, true, true, true, false, false, false, true, false, false, false, false, false] rfl rfl (take_ofW HT_.out HW_.out (by kernel_rfl)) (fun _ _ _ h => h) (Or.inl ⟨by rfl, ?_⟩) hHeld ?_ ?_
                            rotate_left
                            · rintro w' ⟨s0, s1, s2, s3, s4⟩
                              go_simp
                              with_reducible rfl
                            rotate_left
                            · simp only [Act.put, List.setIfInBounds_toArray, List.set_cons_zero, List.set_cons_succ, i64_w, i32_w]
                              rfl
                            refine pure_ (i := 5) (N := some 119) (v := ?_) (a' := ?_) #[true, true, true, true, true, true, false, false, true, false, false, false, false, false] rfl rfl (any_of HT_.out (by kernel_rfl)) (fun _ _ _ h => h) (Or.inl ⟨by rfl, ?_⟩) ?_ ?_
                            rotate_left
                            · intro w'
                              go_simp
                              with_reducible rfl
                            rotate_left
                            · simp only [Act.put, List.setIfInBounds_toArray, List.set_cons_zero, List.set_cons_succ, i64_w, i32_w]
                              rfl
                            refine pure_ (i := 6) (N := some 120) (v := ?_) (a' := ?_) #[true, true, true, true, true, true, true, false, true, false, false, false, false, false] rfl rfl (any_of HT_.out (by kernel_rfl)) (fun _ _ _ h => h) (Or.inl ⟨by rfl, ?_⟩) ?_ ?_
                            rotate_left
                            · intro w'
                              go_simp
                              with_reducible rfl
                            rotate_left
                            · simp only [Act.put, List.setIfInBounds_toArray, List.set_cons_zero, List.set_cons_succ, i64_w, i32_w]
                              rfl
                            refine take_ (i := 7) (N := some 121) (v := ?_) (a' := ?_) #[true, true, true, true, true, true, true, true, true, false, false, false, false, false] rfl rfl (take_ofW HT_.out HW_.out (by kernel_rfl)) (fun _ _ _ h => h) (Or.inl ⟨by rfl, ?_⟩) hHeld ?_ ?_
                            rotate_left
                            · rintro w' ⟨s0, s1, s2, s3, s4⟩
                              go_simp
                              with_reducible rfl
                            rotate_left
                            · simp only [Act.put, List.setIfInBounds_toArray, List.set_cons_zero, List.set_cons_succ, i64_w, i32_w]
                              rfl
                            refine take_ (i := 9) (N := some 123) (v := ?_) (a' := ?_) #[true, true, true, true, true, true, true, true, true, true, false, false, false, false] rfl rfl (take_ofW HT_.out HW_.out (by kernel_rfl)) (fun _ _ _ h => h) (Or.inl ⟨by rfl, ?_⟩) hHeld ?_ ?_
                            rotate_left
                            · rintro w' ⟨s0, s1, s2, s3, s4⟩
                              go_simp
                              with_reducible rfl
                            rotate_left
                            · simp only [Act.put, List.setIfInBounds_toArray, List.set_cons_zero, List.set_cons_succ, i64_w, i32_w]
                              rfl
                            refine pure_ (i := 10) (N := some 124) (v := ?_) (a' := ?_) #[true, true, true, true, true, true, true, true, true, true, true, false, false, false] rfl rfl (any_of HT_.out (by kernel_rfl)) (fun _ _ _ h => h) (Or.inl ⟨by rfl, ?_⟩) ?_ ?_
                            rotate_left
                            · intro w'
                              go_simp
                              with_reducible rfl
                            rotate_left
                            · simp only [Act.put, List.setIfInBounds_toArray, List.set_cons_zero, List.set_cons_succ, i64_w, i32_w]
                              rfl
                            refine pure_ (i := 11) (N := some 125) (v := ?_) (a' := ?_) #[true, true, true, true, true, true, true, true, true, true, true, true, false, false] rfl rfl (any_of HT_.out (by kernel_rfl)) (fun _ _ _ h => h) (Or.inl ⟨by rfl, ?_⟩) ?_ ?_
                            rotate_left
                            · intro w'
                              go_simp
                              with_reducible rfl
                            rotate_left
                            · simp only [Act.put, List.setIfInBounds_toArray, List.set_cons_zero, List.set_cons_succ, i64_w, i32_w]
                              rfl
                            refine pure_ (i := 12) (N := some 126) (v := ?_) (a' := ?_) #[true, true, true, true, true, true, true, true, true, true, true, true, true, false] rfl rfl (any_of HT_.out (by kernel_rfl)) (fun _ _ _ h => h) (Or.inl ⟨by rfl, ?_⟩) ?_ ?_
                            rotate_left
                            · intro w'
                              go_simp
                              with_reducible rfl
                            rotate_left
                            · simp only [Act.put, List.setIfInBounds_toArray, List.set_cons_zero, List.set_cons_succ, i64_w, i32_w]
                              rfl
                            refine last_ (i := 13) (N := none) #[true, true, true, true, true, true, true, true, true, true, true, true, true, true] rfl rfl (one_of HT_.out (by kernel_rfl)) (by decide) (fun K hK => ?_)
                            refine skip_ (w1 := ?_) (by rfl) rfl ?_ ?_
                            rotate_left
                            · go_simp
                              rfl
                            refine hK.out _ _ ?_
                            clear hK K
                            refine done_ (done_of HT_.out (by kernel_rfl)) ?_
                            try go_wp2
                            (try simp only [← hl5_3])
                            go_roundg kj59
                            case measure => have := HK1.out; have := HK2.out; have := HK3.out; have := HJ33.out; have := HJ59.out; omega
                            case rel => exact ⟨(y297), (wrap64 (x8_3 + 1)), (by first | rfl | (simp; done) | (simp [*]; done)), H', ⟨by have := HK1.out; have := HK2.out; have := HK3.out; have := HJ33.out; have := HJ59.out; omega⟩, ⟨by (try simp only [hl5_2]); (try simp only [hl5_3]); (with_reducible repeat (first | apply Kd.S_alloc | apply Kd.S_drewN | apply Kd.S_drew)); exact Kd.S_mono HQ102.out (fun _ hk => trivial)⟩, ⟨by (try simp only [hl5_2]); (try simp only [hl5_3]); (with_reducible repeat (first | refine blk_drewN ?_ _ | refine blk_drew ?_ | refine blk_alloc ?_ _)); refine blk_far ?_ (by have h_ := Kd.R_ne HL293_0.out BK263.out (by decide); intro e_; exact h_ (by rw [e_]; rfl)) _; (with_reducible repeat (first | refine blk_drewN ?_ _ | refine blk_drew ?_ | refine blk_alloc ?_ _)); exact BK263.out⟩, ⟨by repeat (first | (with_reducible first | exact HB.out | apply below_alloc | apply pw_below_drewN | apply below_drew1 | refine below_set ?_ GB100.out | refine below_set ?_ GE263.out | refine below_set ?_ GE280.out | refine below_set ?_ GE283.out) | exact HB.out)⟩⟩
                          subst c81
                          have H1 : (if 0 ≤ x6_1 then (if x6_1 < (x5_3.length : Int) then (if 0 ≤ x42_2 then (if x42_2 < ((rd_L7 x5_3 x6_1).length : Int) then ((some (x5_3.set (x6_1 : Int).toNat ((rd_L7 x5_3 x6_1).set (x42_2 : Int).toNat (⟨(rd_T68 (rd_L7 x5_3 x6_1) x42_2).f0, wrap64 (((rd_T68 (rd_L7 x5_3 (ji42)) (ji47)).f1) + x8_3)⟩ : S68)) : List (List (S68)))).bind fun y287 => (if x42_2 < ((rd_L7 y287 x6_1).length : Int) then (impl_purse_table.l2 kj59 a1 (y287.set (x6_1 : Int).toNat ((rd_L7 y287 x6_1).set (x42_2 : Int).toNat (⟨wrap64 (((rd_T68 (rd_L7 y287 x6_1) x42_2).f0) + ((rd_T68 (rd_L7 x5_3 (ji42)) (ji47)).f0)), (rd_T68 (rd_L7 y287 x6_1) x42_2).f1⟩ : S68))) x6_1 x42_2 (wrap64 (x8_3 + 1)) ji12 x42_2 l0_0 l0_1) else (none))) else (none)) else (none)) else (none)) else (none)) = some r := by rw [if_pos rfl] at H; exact H
                          clear H
                          have H := H1
                          clear H1
                          by_cases c82 : 0 ≤ x6_1
                          rotate_left
                          · rw [if_neg c82] at H
                            exact absurd H (by simp)
                          rw [if_pos c82] at H
                          have c82b0 : decide (0 ≤ x6_1) = true := decide_eq_true c82
                          clear c82
                          by_cases c83 : x6_1 < (x5_3.length : Int)
                          rotate_left
                          · rw [if_neg c83] at H
                            exact absurd H (by simp)
                          rw [if_pos c83] at H
                          have c83b0 : decide (x6_1 < (x5_3.length : Int)) = true := decide_eq_true c83
                          clear c83
                          by_cases c84 : 0 ≤ x42_2
                          rotate_left
                          · rw [if_neg c84] at H
                            exact absurd H (by simp)
                          rw [if_pos c84] at H
                          have c84b0 : decide (0 ≤ x42_2) = true := decide_eq_true c84
                          clear c84
                          by_cases c85 : x42_2 < ((rd_L7 x5_3 x6_1).length : Int)
                          rotate_left
                          · rw [if_neg c85] at H
                            exact absurd H (by simp)
                          rw [if_pos c85] at H
                          have c85b0 : decide (x42_2 < ((rd_L7 x5_3 x6_1).length : Int)) = true := decide_eq_true c85
                          clear c85
                          obtain ⟨y285, hy285⟩ : ∃ y_ : List (S68), y_ = ((rd_L7 x5_3 x6_1).set (x42_2 : Int).toNat (⟨(rd_T68 (rd_L7 x5_3 x6_1) x42_2).f0, wrap64 (((rd_T68 (rd_L7 x5_3 (ji42)) (ji47)).f1) + x8_3)⟩ : S68)) := ⟨_, rfl⟩
                          replace H : ((some (x5_3.set (x6_1 : Int).toNat y285 : List (List (S68)))).bind fun y287 => (if x42_2 < ((rd_L7 y287 x6_1).length : Int) then (impl_purse_table.l2 kj59 a1 (y287.set (x6_1 : Int).toNat ((rd_L7 y287 x6_1).set (x42_2 : Int).toNat (⟨wrap64 (((rd_T68 (rd_L7 y287 x6_1) x42_2).f0) + ((rd_T68 (rd_L7 x5_3 (ji42)) (ji47)).f0)), (rd_T68 (rd_L7 y287 x6_1) x42_2).f1⟩ : S68))) x6_1 x42_2 (wrap64 (x8_3 + 1)) ji12 x42_2 l0_0 l0_1) else (none))) = some r := by first | (rw [hy285]; with_reducible exact H) | (have H2_ := (Option.bind_some _ _).symm.trans H; rw [hy285]; with_reducible exact H2_) | (have H2_ := (Option.bind_some _ _).symm.trans H; with_reducible exact H2_) | with_reducible exact H | (rw [hy285]; exact H) | exact H
                          have Ny285 := Aside0.mk hy285
                          clear hy285
                          obtain ⟨y287, hy287⟩ : ∃ y_ : List (List (S68)), y_ = (x5_3.set (x6_1 : Int).toNat y285) := ⟨_, rfl⟩
                          replace H : (if x42_2 < ((rd_L7 y287 x6_1).length : Int) then (impl_purse_table.l2 kj59 a1 (y287.set (x6_1 : Int).toNat ((rd_L7 y287 x6_1).set (x42_2 : Int).toNat (⟨wrap64 (((rd_T68 (rd_L7 y287 x6_1) x42_2).f0) + ((rd_T68 (rd_L7 x5_3 (ji42)) (ji47)).f0)), (rd_T68 (rd_L7 y287 x6_1) x42_2).f1⟩ : S68))) x6_1 x42_2 (wrap64 (x8_3 + 1)) ji12 x42_2 l0_0 l0_1) else (none)) = some r := by first | (rw [hy287]; with_reducible exact H) | (have H2_ := (Option.bind_some _ _).symm.trans H; rw [hy287]; with_reducible exact H2_) | (have H2_ := (Option.bind_some _ _).symm.trans H; with_reducible exact H2_) | with_reducible exact H | (rw [hy287]; exact H) | exact H
                          have Ny287 := Aside0.mk hy287
                          clear hy287
                          by_cases c87 : x42_2 < ((rd_L7 y287 x6_1).length : Int)
                          rotate_left
                          · rw [if_neg c87] at H
                            exact absurd H (by simp)
                          rw [if_pos c87] at H
                          have c87b0 : decide (x42_2 < ((rd_L7 y287 x6_1).length : Int)) = true := decide_eq_true c87
                          clear c87
                          obtain ⟨y290, hy290⟩ : ∃ y_ : List (S68), y_ = ((rd_L7 y287 x6_1).set (x42_2 : Int).toNat (⟨wrap64 (((rd_T68 (rd_L7 y287 x6_1) x42_2).f0) + ((rd_T68 (rd_L7 x5_3 (ji42)) (ji47)).f0)), (rd_T68 (rd_L7 y287 x6_1) x42_2).f1⟩ : S68)) := ⟨_, rfl⟩
                          replace H : (impl_purse_table.l2 kj59 a1 (y287.set (x6_1 : Int).toNat y290) x6_1 x42_2 (wrap64 (x8_3 + 1)) ji12 x42_2 l0_0 l0_1) = some r := by first | (rw [hy290]; with_reducible exact H) | (have H2_ := (Option.bind_some _ _).symm.trans H; rw [hy290]; with_reducible exact H2_) | (have H2_ := (Option.bind_some _ _).symm.trans H; with_reducible exact H2_) | with_reducible exact H | (rw [hy290]; exact H) | exact H
                          have Ny290 := Aside0.mk hy290
                          clear hy290
                          obtain ⟨y292, hy292⟩ : ∃ y_ : List (List (S68)), y_ = (y287.set (x6_1 : Int).toNat y290) := ⟨_, rfl⟩
                          replace H : (impl_purse_table.l2 kj59 a1 y292 x6_1 x42_2 (wrap64 (x8_3 + 1)) ji12 x42_2 l0_0 l0_1) = some r := by first | (rw [hy292]; with_reducible exact H) | (have H2_ := (Option.bind_some _ _).symm.trans H; rw [hy292]; with_reducible exact H2_) | (have H2_ := (Option.bind_some _ _).symm.trans H; with_reducible exact H2_) | with_reducible exact H | (rw [hy292]; exact H) | exact H
                          have Ny292 := Aside0.mk hy292
                          clear hy292
                          have H' := Aside0.mk H
                          clear H
                          try go_wp2
                          have n0_ := Aside0.mk (Kd.S_drew HO_5.out)
                          have n1_ := Aside0.mk (blk_drew BK263.out)
                          have n2_ := Aside0.mk (blk_drew BK280.out)
                          have n3_ := Aside0.mk (blk_drew BK283.out)
                          have n4_ := Aside0.mk (Kd.C_drew HR281_0.out)
                          have n5_ := Aside0.mk (below_drew1 HB.out)
                          clear HO_5
                          clear BK263
                          clear BK280
                          clear BK283
                          clear HR281_0
                          clear HB
                          have HO_5 := n0_
                          have BK263 := n1_
                          have BK280 := n2_
                          have BK283 := n3_
                          have HR281_0 := n4_
                          have HB := n5_
                          clear n0_ n1_ n2_ n3_ n4_ n5_
                          have p284 : 0 ≤ (x6_1 : Int) := of_decide_eq_true (by first | (with_reducible assumption) | assumption)
                          have q284 : x6_1 < (x5_3.length : Int) := of_decide_eq_true (by first | (with_reducible assumption) | assumption)
                          obtain ⟨ad284, A284_0, c284_0, e284, hx284_0, hl284_0, hi284_0⟩ := at_L7 (Kd.S_reads' HO_5.out).2.2 x6_1 p284 q284
                          obtain rfl : (⟨go17, 0, none⟩ : Addr) = ad284 := (by injection e284)
                          obtain ⟨ce284, hce284, hMe284, hcc284⟩ := Kd.S_get HO_5.out [] x6_1 p284 (by first | exact q284 | exact of_decide_eq_true (by first | (with_reducible assumption) | assumption) | (have e_ := (Kd.S_reads' HO_5.out).1; omega))
                          obtain ⟨ve284_0, rfl, ge284_0⟩ := hMe284
                          have hv284_0 := hcc284 0 _ rfl
                          rw [Nat.add_zero, show ((Kd.slice 68 k68)).sz = 1 from rfl, Nat.mul_one] at hv284_0
                          replace hv284_0 := Option.some.inj (hv284_0.symm.trans hx284_0)
                          rw [hv284_0] at ge284_0
                          have HL284_0 := Aside0.mk (show Kd.R k68 68 _ _ _ _ (rd_L7 x5_3 x6_1) from ge284_0)
                          clear hv284_0 ge284_0
                          have HX284_0 := Aside0.mk hx284_0
                          clear hcc284 hce284
                          (first | simp only [add_plain] at hx284_0 | simp only [add_at] at hx284_0 | simp only [Addr.add, Nat.zero_add] at hx284_0 | skip)
                          have HR284_0 := Aside0.mk hi284_0
                          have HC284_0 := Aside0.mk hl284_0
                          clear hi284_0 hl284_0
                          replace p284 := eq_true p284
                          replace q284 := eq_true q284
                          have p86 : 0 ≤ (x42_2 : Int) := of_decide_eq_true (by first | (with_reducible assumption) | assumption)
                          have q86 : (x42_2 : Int) < (((rd_L7 x5_3 x6_1).length : Int) : Int) := of_decide_eq_true (by first | (with_reducible assumption) | assumption)
                          obtain ⟨go86, co86, eo86, gb86, gl86, cl86, HG86⟩ := Kd.R_form HL284_0.out (by omega)
                          (first | cases eo86 | (injection eo86 with ea_ en_ ec_; (first | subst ea_ | (injection ea_ with ea_; subst ea_)); subst ec_; clear en_))
                          have GB86 := Aside0.mk gb86
                          have GG86 := Aside0.mk HG86
                          clear gb86 gl86 HG86
                          obtain ⟨ce86, hcl86, hM86, hcc86, hfr86⟩ := Kd.R_elem HL284_0.out z68 (x42_2 : Int) p86 q86
                          obtain rfl := k68_openM hM86
                          have hx86_0 : World.cell? _ ⟨go86, (x42_2 : Int).toNat * 2, none⟩ = some (.int .i64 ((rd_T68 (rd_L7 x5_3 x6_1) x42_2).f0)) := hcc86 0 _ rfl
                          have hx86_1 : World.cell? _ ⟨go86, (x42_2 : Int).toNat * 2 + 1, none⟩ = some (.int .i64 ((rd_T68 (rd_L7 x5_3 x6_1) x42_2).f1)) := hcc86 1 _ rfl
                          have hf86_0 : World.frozen? _ ⟨go86, (x42_2 : Int).toNat * 2, none⟩ = false := hfr86 0
                          have hf86_1 : World.frozen? _ ⟨go86, (x42_2 : Int).toNat * 2 + 1, none⟩ = false := hfr86 1
                          clear hcl86 hcc86 hfr86 hM86
                          replace p86 := eq_true p86
                          replace q86 := eq_true q86
                          have hq90 : (x6_1 : Int) < (x5_3.length : Int) := (by have h_ : (x6_1 : Int) < ((x5_3.length : Int) : Int) := of_decide_eq_true (by first | (with_reducible assumption) | assumption); first | exact h_ | (have e_ := (Kd.S_reads' HO_5.out).1; omega) | simpa only [List.length_set, List.length_set] using h_)
                          obtain ⟨oki90, ce90, hcl90, hM90, hcc90, hok90, hbk90⟩ := Kd.S_borrow HO_5.out [] (x6_1 : Int) (of_decide_eq_true (by first | (with_reducible assumption) | assumption)) (by first | exact hq90 | (have e_ := (Kd.S_reads' HO_5.out).1; omega))
                          obtain ⟨ve90_0, rfl, ge90_0⟩ := id hM90
                          have hv90 := hcc90 0 _ rfl
                          rw [Nat.add_zero, show ((Kd.slice 68 k68)).sz = 1 from rfl, Nat.mul_one] at hv90
                          replace hv90 := Option.some.inj (hv90.symm.trans HX284_0.out)
                          subst hv90
                          clear hcc90 hcl90
                          replace ge90_0 := (show Kd.R k68 68 _ _ _ _ (rd_L7 x5_3 x6_1) from ge90_0)
                          obtain ⟨cf90, hcl90, hN90, hcc90, hfr90⟩ := Kd.R_elem ge90_0 z68 (x42_2 : Int) (of_decide_eq_true (by first | (with_reducible assumption) | assumption)) (by have h_ : (x42_2 : Int) < (((rd_L7 x5_3 x6_1).length : Int) : Int) := of_decide_eq_true (by first | (with_reducible assumption) | assumption); first | exact h_ | (have e_ := (Kd.R_reads' HR284_0.out).1; omega) | simpa using h_)
                          obtain rfl := k68_openM hN90
                          have HP90 := Kd.R_seg ge90_0 (x42_2 : Int) (of_decide_eq_true (by first | (with_reducible assumption) | assumption)) (by have h_ : (x42_2 : Int) < (((rd_L7 x5_3 x6_1).length : Int) : Int) := of_decide_eq_true (by first | (with_reducible assumption) | assumption); first | exact h_ | (have e_ := (Kd.R_reads' HR284_0.out).1; omega) | simpa using h_) (seg := [.int .i64 (wrap64 (((rd_T68 (rd_L7 x5_3 (ji42)) (ji47)).f1) + x8_3))]) (j := 1) hcl90 hcc90 (show 2 ≤ 2 from by decide) (x' := (⟨(rd_T68 (rd_L7 x5_3 x6_1) x42_2).f0, wrap64 (((rd_T68 (rd_L7 x5_3 (ji42)) (ji47)).f1) + x8_3)⟩ : S68)) (k68_mkM _ _ _ (⟨(rd_T68 (rd_L7 x5_3 x6_1) x42_2).f0, wrap64 (((rd_T68 (rd_L7 x5_3 (ji42)) (ji47)).f1) + x8_3)⟩ : S68)) (fun _ hk => hk)
                          clear hcl90 hcc90 hfr90 hN90
                          rw [← Ny285.out] at HP90
                          have HS90 := hbk90 HP90.2 (fun k_ e_ => by injection e_ with e_; subst e_; exact ge90_0.1 _ rfl) (x' := y285) (Kd.M_row HP90.1)
                          rw [← Ny287.out] at HS90
                          have HQ90 := Aside0.mk HS90
                          clear HP90 HS90 hbk90 hok90
                          refine start_ (n := 12) (S := fun w' => w'.cell? ⟨gb280, 0, none⟩ = some (.int .i64 ((rd_T68 (rd_L7 x5_3 (ji42)) (ji47)).f0)) ∧ w'.cell? ⟨gb280, 1, none⟩ = some (.int .i64 ((rd_T68 (rd_L7 x5_3 (ji42)) (ji47)).f1)) ∧ w'.cell? ⟨go17, (x6_1).toNat, none⟩ = some (.slice (some ⟨go86, 0, none⟩) (rd_L7 x5_3 x6_1).length c284_0)) (ds := [11]) #[false, false, false, false, false, false, false, false, false, false, false, false] (by kernel_rfl) rfl rfl ⟨(blk_cell BK280.out 0).trans rfl, (blk_cell BK280.out 1).trans rfl, hx284_0⟩ (fun hHeld => ?_); refine with_tabW impl_purse_table.tab18 impl_purse_table.bits18 (fun HT_ HW_ => ?_)
                          generalize wc.drew = w89 at HO_5 BK263 BK280 BK283 HR281_0 HB GG86 HL284_0 HQ90 HR284_0 HX284_0 hf86_0 hf86_1 hx284_0 hx86_0 hx86_1 hHeld ⊢
                          refine pure_ (i := 0) (N := some 103) (v := ?_) (a' := ?_) #[true, false, false, false, false, false, false, false, false, false, false, false] rfl rfl (any_of HT_.out (by kernel_rfl)) (fun _ _ _ h => h) (Or.inl ⟨by rfl, ?_⟩) ?_ ?_
                          rotate_left
                          · intro w'
                            go_simp
                            with_reducible rfl
                          rotate_left
                          · simp only [Act.put, List.setIfInBounds_toArray, List.set_cons_zero, List.set_cons_succ, i64_w, i32_w]
                            rfl
                          refine pure_ (i := 1) (N := some 104) (v := ?_) (a' := ?_) #[true, true, false, false, false, false, false, false, false, false, false, false] rfl rfl (any_of HT_.out (by kernel_rfl)) (fun _ _ _ h => h) (Or.inl ⟨by rfl, ?_⟩) ?_ ?_
                          rotate_left
                          · intro w'
                            go_simp
                            with_reducible rfl
                          rotate_left
                          · simp only [Act.put, List.setIfInBounds_toArray, List.set_cons_zero, List.set_cons_succ, i64_w, i32_w]
                            rfl
                          refine pure_ (i := 2) (N := some 105) (v := ?_) (a' := ?_) #[true, true, true, false, false, false, false, false, false, false, false, false] rfl rfl (any_of HT_.out (by kernel_rfl)) (fun _ _ _ h => h) (Or.inl ⟨by rfl, ?_⟩) ?_ ?_
                          rotate_left
                          · intro w'
                            go_simp
                            with_reducible rfl
                          rotate_left
                          · simp only [Act.put, List.setIfInBounds_toArray, List.set_cons_zero, List.set_cons_succ, i64_w, i32_w]
                            rfl
                          refine pure_ (i := 4) (N := some 107) (v := ?_) (a' := ?_) #[true, true, true, false, true, false, false, false, false, false, false, false] rfl rfl (any_of HT_.out (by kernel_rfl)) (fun _ _ _ h => h) (Or.inl ⟨by rfl, ?_⟩) ?_ ?_
                          rotate_left
                          · intro w'
                            go_simp
                            with_reducible rfl
                          rotate_left
                          · simp only [Act.put, List.setIfInBounds_toArray, List.set_cons_zero, List.set_cons_succ, i64_w, i32_w]
                            rfl
                          refine pure_ (i := 5) (N := some 108) (v := ?_) (a' := ?_) #[true, true, true, false, true, true, false, false, false, false, false, false] rfl rfl (any_of HT_.out (by kernel_rfl)) (fun _ _ _ h => h) (Or.inl ⟨by rfl, ?_⟩) ?_ ?_
                          rotate_left
                          · intro w'
                            go_simp
                            with_reducible rfl
                          rotate_left
                          · simp only [Act.put, List.setIfInBounds_toArray, List.set_cons_zero, List.set_cons_succ, i64_w, i32_w]
                            rfl
                          refine pure_ (i := 7) (N := some 110) (v := ?_) (a' := ?_) #[true, true, true, false, true, true, false, true, false, false, false, false] rfl rfl (any_of HT_.out (by kernel_rfl)) (fun _ _ _ h => h) (Or.inl ⟨by rfl, ?_⟩) ?_ ?_
                          rotate_left
                          · intro w'
                            go_simp
                            with_reducible rfl
                          rotate_left
                          · simp only [Act.put, List.setIfInBounds_toArray, List.set_cons_zero, List.set_cons_succ, i64_w, i32_w]
                            rfl
                          refine take_ (i := 3) (N := some 106) (v := ?_) (a' := ?_) #[true, true, true, true, true, true, false, true, false, false, false, false] rfl rfl (take_ofW HT_.out HW_.out (by kernel_rfl)) (fun _ _ _ h => h) (Or.inl ⟨by rfl, ?_⟩) hHeld ?_ ?_
                          rotate_left
                          · rintro w' ⟨s0, s1, s2⟩
                            go_simp
                            with_reducible rfl
                          rotate_left
                          · simp only [Act.put, List.setIfInBounds_toArray, List.set_cons_zero, List.set_cons_succ, i64_w, i32_w]
                            rfl
                          refine take_ (i := 6) (N := some 109) (v := ?_) (a' := ?_) #[true, true, true, true, true, true, true, true, false, false, false, false] rfl rfl (take_ofW HT_.out HW_.out (by kernel_rfl)) (fun _ _ _ h => h) (Or.inl ⟨by rfl, ?_⟩) hHeld ?_ ?_
                          rotate_left
                          · rintro w' ⟨s0, s1, s2⟩
                            go_simp
                            with_reducible rfl
                          rotate_left
                          · simp only [Act.put, List.setIfInBounds_toArray, List.set_cons_zero, List.set_cons_succ, i64_w, i32_w]
                            rfl
                          refine pure_ (i := 8) (N := some 111) (v := ?_) (a' := ?_) #[true, true, true, true, true, true, true, true, true, false, false, false] rfl rfl (any_of HT_.out (by kernel_rfl)) (fun _ _ _ h => h) (Or.inl ⟨by rfl, ?_⟩) ?_ ?_
                          rotate_left
                          · intro w'
                            go_simp
                            with_reducible rfl
                          rotate_left
                          · simp only [Act.put, List.setIfInBounds_toArray, List.set_cons_zero, List.set_cons_succ, i64_w, i32_w]
                            rfl
                          refine pure_ (i := 9) (N := some 112) (v := ?_) (a' := ?_) #[true, true, true, true, true, true, true, true, true, true, false, false] rfl rfl (any_of HT_.out (by kernel_rfl)) (fun _ _ _ h => h) (Or.inl ⟨by rfl, ?_⟩) ?_ ?_
                          rotate_left
                          · intro w'
                            go_simp
                            with_reducible rfl
                          rotate_left
                          · simp only [Act.put, List.setIfInBounds_toArray, List.set_cons_zero, List.set_cons_succ, i64_w, i32_w]
                            rfl
                          refine pure_ (i := 10) (N := some 113) (v := ?_) (a' := ?_) #[true, true, true, true, true, true, true, true, true, true, true, false] rfl rfl (any_of HT_.out (by kernel_rfl)) (fun _ _ _ h => h) (Or.inl ⟨by rfl, ?_⟩) ?_ ?_
                          rotate_left
                          · intro w'
                            go_simp
                            with_reducible rfl
                          rotate_left
                          · simp only [Act.put, List.setIfInBounds_toArray, List.set_cons_zero, List.set_cons_succ, i64_w, i32_w]
                            rfl
                          refine last_ (i := 11) (N := none) #[true, true, true, true, true, true, true, true, true, true, true, true] rfl rfl (one_of HT_.out (by kernel_rfl)) (by decide) (fun K hK => ?_)
                          refine skip_ (w1 := ?_) (by rfl) rfl ?_ ?_
                          rotate_left
                          · go_simp
                            rfl
                          refine hK.out _ _ ?_
                          clear hK K
                          refine done_ (done_of HT_.out (by kernel_rfl)) ?_
                          try go_wp2
                          have n0_ : Aside0 (Kd.S (Kd.slice 68 k68) 69 (w89.setCell ⟨go86, (x42_2 : Int).toNat * 2 + 1, none⟩ (.int .i64 (wrap64 (((rd_T68 (rd_L7 x5_3 (ji42)) (ji47)).f1) + x8_3)))) w.heap.size (fun k_ => k_ ≠ gb280 ∧ k_ ≠ gb283) (.slice (some ⟨go17, 0, none⟩) x5_3.length co17) y287) := ⟨by (with_reducible repeat (first | apply Kd.S_alloc | apply Kd.S_drewN | apply Kd.S_drew)); exact HQ90.out⟩
                          have n1_ : Aside0 ((w89.setCell ⟨go86, (x42_2 : Int).toNat * 2 + 1, none⟩ (.int .i64 (wrap64 (((rd_T68 (rd_L7 x5_3 (ji42)) (ji47)).f1) + x8_3)))).heap[gb263]? = some (.cells #[.slice (some ad278) l0_0.length c0_0, .slice A0_1 l0_1.length c0_1] 55 (0, 0))) := ⟨by (with_reducible repeat (first | refine blk_drewN ?_ _ | refine blk_drew ?_ | refine blk_alloc ?_ _)); refine blk_far ?_ (by have h_ := Kd.R_ne HL284_0.out BK263.out (by decide); intro e_; exact h_ (by rw [e_]; rfl)) _; (with_reducible repeat (first | refine blk_drewN ?_ _ | refine blk_drew ?_ | refine blk_alloc ?_ _)); exact BK263.out⟩
                          have n2_ : Aside0 ((w89.setCell ⟨go86, (x42_2 : Int).toNat * 2 + 1, none⟩ (.int .i64 (wrap64 (((rd_T68 (rd_L7 x5_3 (ji42)) (ji47)).f1) + x8_3)))).heap[gb280]? = some (.cells #[.int .i64 ((rd_T68 (rd_L7 x5_3 (ji42)) (ji47)).f0), .int .i64 ((rd_T68 (rd_L7 x5_3 (ji42)) (ji47)).f1)] 68 (0, 0))) := ⟨by (with_reducible repeat (first | refine blk_drewN ?_ _ | refine blk_drew ?_ | refine blk_alloc ?_ _)); refine blk_far ?_ (by have h_ := Kd.R_away HL284_0.out (fun _ hk => hk.1.1); intro e_; exact h_ (by rw [e_]; rfl)) _; (with_reducible repeat (first | refine blk_drewN ?_ _ | refine blk_drew ?_ | refine blk_alloc ?_ _)); exact BK280.out⟩
                          have n3_ : Aside0 ((w89.setCell ⟨go86, (x42_2 : Int).toNat * 2 + 1, none⟩ (.int .i64 (wrap64 (((rd_T68 (rd_L7 x5_3 (ji42)) (ji47)).f1) + x8_3)))).heap[gb283]? = some (.cells #[.int .i64 ((rd_T68 (rd_L7 x5_3 x6_1) x42_2).f0), .int .i64 ((rd_T68 (rd_L7 x5_3 x6_1) x42_2).f1)] 68 (0, 0))) := ⟨by (with_reducible repeat (first | refine blk_drewN ?_ _ | refine blk_drew ?_ | refine blk_alloc ?_ _)); refine blk_far ?_ (by have h_ := Kd.R_away HL284_0.out (fun _ hk => hk.1.2); intro e_; exact h_ (by rw [e_]; rfl)) _; (with_reducible repeat (first | refine blk_drewN ?_ _ | refine blk_drew ?_ | refine blk_alloc ?_ _)); exact BK283.out⟩
                          have n4_ : Aside0 (Below w.heap.size w (w89.setCell ⟨go86, (x42_2 : Int).toNat * 2 + 1, none⟩ (.int .i64 (wrap64 (((rd_T68 (rd_L7 x5_3 (ji42)) (ji47)).f1) + x8_3))))) := ⟨by repeat (first | (with_reducible first | exact HB.out | apply below_alloc | apply pw_below_drewN | apply below_drew1 | refine below_set ?_ GB86.out | refine below_set ?_ GE263.out | refine below_set ?_ GE280.out | refine below_set ?_ GE283.out) | exact HB.out)⟩
                          (try clear HO_5)
                          (try clear BK263)
                          (try clear BK280)
                          (try clear BK283)
                          (try clear HB)
                          generalize (w89.setCell ⟨go86, (x42_2 : Int).toNat * 2 + 1, none⟩ (.int .i64 (wrap64 (((rd_T68 (rd_L7 x5_3 (ji42)) (ji47)).f1) + x8_3)))) = w92 at n0_ n1_ n2_ n3_ n4_ ⊢
                          have HO_5 := n0_
                          have BK263 := n1_
                          have BK280 := n2_
                          have BK283 := n3_
                          have HB := n4_
                          clear n0_ n1_ n2_ n3_ n4_
                          have n0_ := Aside0.mk (Kd.S_drew HO_5.out)
                          have n1_ := Aside0.mk (blk_drew BK263.out)
                          have n2_ := Aside0.mk (blk_drew BK280.out)
                          have n3_ := Aside0.mk (blk_drew BK283.out)
                          have n4_ := Aside0.mk (below_drew1 HB.out)
                          clear HO_5
                          clear BK263
                          clear BK280
                          clear BK283
                          clear HB
                          have HO_5 := n0_
                          have BK263 := n1_
                          have BK280 := n2_
                          have BK283 := n3_
                          have HB := n4_
                          clear n0_ n1_ n2_ n3_ n4_
                          have p288 : 0 ≤ (x6_1 : Int) := of_decide_eq_true (by first | (with_reducible assumption) | assumption)
                          have q288 : x6_1 < (y287.length : Int) := (by have h_ : (x6_1 : Int) < ((x5_3.length : Int) : Int) := of_decide_eq_true (by first | (with_reducible assumption) | assumption); first | (have e_ := (Kd.S_reads' HO_5.out).1; omega) | simpa only [Ny287.out, List.length_set] using h_)
                          have ql288 : ((x6_1 : Int) < ((x5_3.length : Int) : Int)) = True := eq_true (of_decide_eq_true (by first | (with_reducible assumption) | assumption))
                          obtain ⟨ad288, A288_0, c288_0, e288, hx288_0, hl288_0, hi288_0⟩ := at_L7 (Kd.S_reads' HO_5.out).2.2 x6_1 p288 q288
                          obtain rfl : (⟨go17, 0, none⟩ : Addr) = ad288 := (by injection e288)
                          obtain ⟨ce288, hce288, hMe288, hcc288⟩ := Kd.S_get HO_5.out [] x6_1 p288 (by first | exact q288 | exact of_decide_eq_true (by first | (with_reducible assumption) | assumption) | (have e_ := (Kd.S_reads' HO_5.out).1; omega))
                          obtain ⟨ve288_0, rfl, ge288_0⟩ := hMe288
                          have hv288_0 := hcc288 0 _ rfl
                          rw [Nat.add_zero, show ((Kd.slice 68 k68)).sz = 1 from rfl, Nat.mul_one] at hv288_0
                          replace hv288_0 := Option.some.inj (hv288_0.symm.trans hx288_0)
                          rw [hv288_0] at ge288_0
                          have HL288_0 := Aside0.mk (show Kd.R k68 68 _ _ _ _ (rd_L7 y287 x6_1) from ge288_0)
                          clear hv288_0 ge288_0
                          have HX288_0 := Aside0.mk hx288_0
                          clear hcc288 hce288
                          (first | simp only [add_plain] at hx288_0 | simp only [add_at] at hx288_0 | simp only [Addr.add, Nat.zero_add] at hx288_0 | skip)
                          have HR288_0 := Aside0.mk hi288_0
                          have HC288_0 := Aside0.mk hl288_0
                          clear hi288_0 hl288_0
                          replace p288 := eq_true p288
                          replace q288 := eq_true q288
                          have p289 : 0 ≤ (x42_2 : Int) := of_decide_eq_true (by first | (with_reducible assumption) | assumption)
                          have q289 : x42_2 < ((rd_L7 y287 x6_1).length : Int) := of_decide_eq_true (by first | (with_reducible assumption) | assumption)
                          obtain ⟨ad289, e289, hx289_0, hx289_1⟩ := at_T68 (by repeat (first | (with_reducible exact HR288_0.out) | (with_reducible refine Kd.C_alloc ?_ _) | (with_reducible refine Kd.C_drewN ?_ _) | (with_reducible refine Kd.C_drew ?_) | exact HR288_0.out)) x42_2 p289 q289
                          cases e289
                          replace p289 := eq_true p289
                          replace q289 := eq_true q289
                          have p88 : 0 ≤ (x42_2 : Int) := of_decide_eq_true (by first | (with_reducible assumption) | assumption)
                          have q88 : (x42_2 : Int) < (((rd_L7 y287 x6_1).length : Int) : Int) := of_decide_eq_true (by first | (with_reducible assumption) | assumption)
                          obtain ⟨go88, co88, eo88, gb88, gl88, cl88, HG88⟩ := Kd.R_form HL288_0.out (by omega)
                          (first | cases eo88 | (injection eo88 with ea_ en_ ec_; (first | subst ea_ | (injection ea_ with ea_; subst ea_)); subst ec_; clear en_))
                          have GB88 := Aside0.mk gb88
                          have GG88 := Aside0.mk HG88
                          clear gb88 gl88 HG88
                          (first | simp only [add_plain] at hx289_0 | skip)
                          (first | simp only [add_plain] at hx289_1 | skip)
                          obtain ⟨ce88, hcl88, hM88, hcc88, hfr88⟩ := Kd.R_elem HL288_0.out z68 (x42_2 : Int) p88 q88
                          obtain rfl := k68_openM hM88
                          have hx88_0 : World.cell? _ ⟨go88, (x42_2 : Int).toNat * 2, none⟩ = some (.int .i64 ((rd_T68 (rd_L7 y287 x6_1) x42_2).f0)) := hcc88 0 _ rfl
                          have hx88_1 : World.cell? _ ⟨go88, (x42_2 : Int).toNat * 2 + 1, none⟩ = some (.int .i64 ((rd_T68 (rd_L7 y287 x6_1) x42_2).f1)) := hcc88 1 _ rfl
                          have hf88_0 : World.frozen? _ ⟨go88, (x42_2 : Int).toNat * 2, none⟩ = false := hfr88 0
                          have hf88_1 : World.frozen? _ ⟨go88, (x42_2 : Int).toNat * 2 + 1, none⟩ = false := hfr88 1
                          clear hcl88 hcc88 hfr88 hM88
                          replace p88 := eq_true p88
                          replace q88 := eq_true q88
                          have hq94 : (x6_1 : Int) < (y287.length : Int) := (by have h_ : (x6_1 : Int) < ((x5_3.length : Int) : Int) := of_decide_eq_true (by first | (with_reducible assumption) | assumption); first | exact h_ | (have e_ := (Kd.S_reads' HO_5.out).1; omega) | simpa only [Ny287.out, List.length_set] using h_)
                          obtain ⟨oki94, ce94, hcl94, hM94, hcc94, hok94, hbk94⟩ := Kd.S_borrow HO_5.out [] (x6_1 : Int) (of_decide_eq_true (by first | (with_reducible assumption) | assumption)) (by first | exact hq94 | (have e_ := (Kd.S_reads' HO_5.out).1; omega))
                          obtain ⟨ve94_0, rfl, ge94_0⟩ := id hM94
                          have hv94 := hcc94 0 _ rfl
                          rw [Nat.add_zero, show ((Kd.slice 68 k68)).sz = 1 from rfl, Nat.mul_one] at hv94
                          replace hv94 := Option.some.inj (hv94.symm.trans HX288_0.out)
                          subst hv94
                          clear hcc94 hcl94
                          replace ge94_0 := (show Kd.R k68 68 _ _ _ _ (rd_L7 y287 x6_1) from ge94_0)
                          obtain ⟨cf94, hcl94, hN94, hcc94, hfr94⟩ := Kd.R_elem ge94_0 z68 (x42_2 : Int) (of_decide_eq_true (by first | (with_reducible assumption) | assumption)) (by have h_ : (x42_2 : Int) < (((rd_L7 y287 x6_1).length : Int) : Int) := of_decide_eq_true (by first | (with_reducible assumption) | assumption); first | exact h_ | (have e_ := (Kd.R_reads' HR288_0.out).1; omega) | simpa using h_)
                          obtain rfl := k68_openM hN94
                          have HP94 := Kd.R_seg ge94_0 (x42_2 : Int) (of_decide_eq_true (by first | (with_reducible assumption) | assumption)) (by have h_ : (x42_2 : Int) < (((rd_L7 y287 x6_1).length : Int) : Int) := of_decide_eq_true (by first | (with_reducible assumption) | assumption); first | exact h_ | (have e_ := (Kd.R_reads' HR288_0.out).1; omega) | simpa using h_) (seg := [.int .i64 (wrap64 (((rd_T68 (rd_L7 y287 x6_1) x42_2).f0) + ((rd_T68 (rd_L7 x5_3 (ji42)) (ji47)).f0)))]) (j := 0) hcl94 hcc94 (show 1 ≤ 2 from by decide) (x' := (⟨wrap64 (((rd_T68 (rd_L7 y287 x6_1) x42_2).f0) + ((rd_T68 (rd_L7 x5_3 (ji42)) (ji47)).f0)), (rd_T68 (rd_L7 y287 x6_1) x42_2).f1⟩ : S68)) (k68_mkM _ _ _ (⟨wrap64 (((rd_T68 (rd_L7 y287 x6_1) x42_2).f0) + ((rd_T68 (rd_L7 x5_3 (ji42)) (ji47)).f0)), (rd_T68 (rd_L7 y287 x6_1) x42_2).f1⟩ : S68)) (fun _ hk => hk)
                          clear hcl94 hcc94 hfr94 hN94
                          rw [← Ny290.out] at HP94
                          have HS94 := hbk94 HP94.2 (fun k_ e_ => by injection e_ with e_; subst e_; exact ge94_0.1 _ rfl) (x' := y290) (Kd.M_row HP94.1)
                          rw [← Ny292.out] at HS94
                          have HQ94 := Aside0.mk HS94
                          clear HP94 HS94 hbk94 hok94
                          refine start_ (n := 14) (S := fun w' => w'.cell? ⟨gb280, 0, none⟩ = some (.int .i64 ((rd_T68 (rd_L7 x5_3 (ji42)) (ji47)).f0)) ∧ w'.cell? ⟨gb280, 1, none⟩ = some (.int .i64 ((rd_T68 (rd_L7 x5_3 (ji42)) (ji47)).f1)) ∧ w'.cell? ⟨go17, (x6_1).toNat, none⟩ = some (.slice (some ⟨go88, 0, none⟩) (rd_L7 y287 x6_1).length c288_0) ∧ w'.cell? ⟨go88, ((x42_2).toNat * 2), none⟩ = some (.int .i64 ((rd_T68 (rd_L7 y287 x6_1) x42_2).f0)) ∧ w'.cell? ⟨go88, ((x42_2).toNat * 2) + 1, none⟩ = some (.int .i64 ((rd_T68 (rd_L7 y287 x6_1) x42_2).f1))) (ds := [13]) #[false, false, false, false, false, false, false, false, false, false, false, false, false, false] (by kernel_rfl) rfl rfl ⟨(blk_cell BK280.out 0).trans rfl, (blk_cell BK280.out 1).trans rfl, hx288_0, hx289_0, hx289_1⟩ (fun hHeld => ?_); refine with_tabW impl_purse_table.tab19 impl_purse_table.bits19 (fun HT_ HW_ => ?_)
                          generalize w92.drew = w93 at HO_5 BK263 BK280 BK283 HB GG88 HL288_0 HQ90 HQ94 HR288_0 HX288_0 hf88_0 hf88_1 hx288_0 hx289_0 hx289_1 hx88_0 hx88_1 hHeld ⊢
                          refine pure_ (i := 0) (N := some 114) (v := ?_) (a' := ?_) #[true, false, false, false, false, false, false, false, false, false, false, false, false, false] rfl rfl (any_of HT_.out (by kernel_rfl)) (fun _ _ _ h => h) (Or.inl ⟨by rfl, ?_⟩) ?_ ?_
                          rotate_left
                          · intro w'
                            go_simp
                            with_reducible rfl
                          rotate_left
                          · simp only [Act.put, List.setIfInBounds_toArray, List.set_cons_zero, List.set_cons_succ, i64_w, i32_w]
                            rfl
                          refine pure_ (i := 1) (N := some 115) (v := ?_) (a' := ?_) #[true, true, false, false, false, false, false, false, false, false, false, false, false, false] rfl rfl (any_of HT_.out (by kernel_rfl)) (fun _ _ _ h => h) (Or.inl ⟨by rfl, ?_⟩) ?_ ?_
                          rotate_left
                          · intro w'
                            go_simp
                            with_reducible rfl
                          rotate_left
                          · simp only [Act.put, List.setIfInBounds_toArray, List.set_cons_zero, List.set_cons_succ, i64_w, i32_w]
                            rfl
                          refine pure_ (i := 2) (N := some 116) (v := ?_) (a' := ?_) #[true, true, true, false, false, false, false, false, false, false, false, false, false, false] rfl rfl (any_of HT_.out (by kernel_rfl)) (fun _ _ _ h => h) (Or.inl ⟨by rfl, ?_⟩) ?_ ?_
                          rotate_left
                          · intro w'
                            go_simp
                            with_reducible rfl
                          rotate_left
                          · simp only [Act.put, List.setIfInBounds_toArray, List.set_cons_zero, List.set_cons_succ, i64_w, i32_w]
                            rfl
                          refine pure_ (i := 4) (N := some 118) (v := ?_) (a' := ?_) #[true, true, true, false, true, false, false, false, false, false, false, false, false, false] rfl rfl (any_of HT_.out (by kernel_rfl)) (fun _ _ _ h => h) (Or.inl ⟨by rfl, ?_⟩) ?_ ?_
                          rotate_left
                          · intro w'
                            go_simp
                            with_reducible rfl
                          rotate_left
                          · simp only [Act.put, List.setIfInBounds_toArray, List.set_cons_zero, List.set_cons_succ, i64_w, i32_w]
                            rfl
                          refine pure_ (i := 8) (N := some 122) (v := ?_) (a' := ?_) #[true, true, true, false, true, false, false, false, true, false, false, false, false, false] rfl rfl (any_of HT_.out (by kernel_rfl)) (fun _ _ _ h => h) (Or.inl ⟨by rfl, ?_⟩) ?_ ?_
                          rotate_left
                          · intro w'
                            go_simp
                            with_reducible rfl
                          rotate_left
                          · simp only [Act.put, List.setIfInBounds_toArray, List.set_cons_zero, List.set_cons_succ, i64_w, i32_w]
                            rfl
                          refine take_ (i := 3) (N := some 117) (v := ?_) (a' := ?_) #[true, true, true, true, true, false, false, false, true, false, false, false, false, false] rfl rfl (take_ofW HT_.out HW_.out (by kernel_rfl)) (fun _ _ _ h => h) (Or.inl ⟨by rfl, ?_⟩) hHeld ?_ ?_
                          rotate_left
                          · rintro w' ⟨s0, s1, s2, s3, s4⟩
                            go_simp
                            with_reducible rfl
                          rotate_left
                          · simp only [Act.put, List.setIfInBounds_toArray, List.set_cons_zero, List.set_cons_succ, i64_w, i32_w]
                            rfl
                          refine pure_ (i := 5) (N := some 119) (v := ?_) (a' := ?_) #[true, true, true, true, true, true, false, false, true, false, false, false, false, false] rfl rfl (any_of HT_.out (by kernel_rfl)) (fun _ _ _ h => h) (Or.inl ⟨by rfl, ?_⟩) ?_ ?_
                          rotate_left
                          · intro w'
                            go_simp
                            with_reducible rfl
                          rotate_left
                          · simp only [Act.put, List.setIfInBounds_toArray, List.set_cons_zero, List.set_cons_succ, i64_w, i32_w]
                            rfl
                          refine pure_ (i := 6) (N := some 120) (v := ?_) (a' := ?_) #[true, true, true, true, true, true, true, false, true, false, false, false, false, false] rfl rfl (any_of HT_.out (by kernel_rfl)) (fun _ _ _ h => h) (Or.inl ⟨by rfl, ?_⟩) ?_ ?_
                          rotate_left
                          · intro w'
                            go_simp
                            with_reducible rfl
                          rotate_left
                          · simp only [Act.put, List.setIfInBounds_toArray, List.set_cons_zero, List.set_cons_succ, i64_w, i32_w]
                            rfl
                          refine take_ (i := 7) (N := some 121) (v := ?_) (a' := ?_) #[true, true, true, true, true, true, true, true, true, false, false, false, false, false] rfl rfl (take_ofW HT_.out HW_.out (by kernel_rfl)) (fun _ _ _ h => h) (Or.inl ⟨by rfl, ?_⟩) hHeld ?_ ?_
                          rotate_left
                          · rintro w' ⟨s0, s1, s2, s3, s4⟩
                            go_simp
                            with_reducible rfl
                          rotate_left
                          · simp only [Act.put, List.setIfInBounds_toArray, List.set_cons_zero, List.set_cons_succ, i64_w, i32_w]
                            rfl
                          refine take_ (i := 9) (N := some 123) (v := ?_) (a' := ?_) #[true, true, true, true, true, true, true, true, true, true, false, false, false, false] rfl rfl (take_ofW HT_.out HW_.out (by kernel_rfl)) (fun _ _ _ h => h) (Or.inl ⟨by rfl, ?_⟩) hHeld ?_ ?_
                          rotate_left
                          · rintro w' ⟨s0, s1, s2, s3, s4⟩
                            go_simp
                            with_reducible rfl
                          rotate_left
                          · simp only [Act.put, List.setIfInBounds_toArray, List.set_cons_zero, List.set_cons_succ, i64_w, i32_w]
                            rfl
                          refine pure_ (i := 10) (N := some 124) (v := ?_) (a' := ?_) #[true, true, true, true, true, true, true, true, true, true, true, false, false, false] rfl rfl (any_of HT_.out (by kernel_rfl)) (fun _ _ _ h => h) (Or.inl ⟨by rfl, ?_⟩) ?_ ?_
                          rotate_left
                          · intro w'
                            go_simp
                            with_reducible rfl
                          rotate_left
                          · simp only [Act.put, List.setIfInBounds_toArray, List.set_cons_zero, List.set_cons_succ, i64_w, i32_w]
                            rfl
                          refine pure_ (i := 11) (N := some 125) (v := ?_) (a' := ?_) #[true, true, true, true, true, true, true, true, true, true, true, true, false, false] rfl rfl (any_of HT_.out (by kernel_rfl)) (fun _ _ _ h => h) (Or.inl ⟨by rfl, ?_⟩) ?_ ?_
                          rotate_left
                          · intro w'
                            go_simp
                            with_reducible rfl
                          rotate_left
                          · simp only [Act.put, List.setIfInBounds_toArray, List.set_cons_zero, List.set_cons_succ, i64_w, i32_w]
                            rfl
                          refine pure_ (i := 12) (N := some 126) (v := ?_) (a' := ?_) #[true, true, true, true, true, true, true, true, true, true, true, true, true, false] rfl rfl (any_of HT_.out (by kernel_rfl)) (fun _ _ _ h => h) (Or.inl ⟨by rfl, ?_⟩) ?_ ?_
                          rotate_left
                          · intro w'
                            go_simp
                            with_reducible rfl
                          rotate_left
                          · simp only [Act.put, List.setIfInBounds_toArray, List.set_cons_zero, List.set_cons_succ, i64_w, i32_w]
                            rfl
                          refine last_ (i := 13) (N := none) #[true, true, true, true, true, true, true, true, true, true, true, true, true, true] rfl rfl (one_of HT_.out (by kernel_rfl)) (by decide) (fun K hK => ?_)
                          refine skip_ (w1 := ?_) (by rfl) rfl ?_ ?_
                          rotate_left
                          · go_simp
                            rfl
                          refine hK.out _ _ ?_
                          clear hK K
                          refine done_ (done_of HT_.out (by kernel_rfl)) ?_
                          try go_wp2
                          (try simp only [← hl5_3])
                          go_roundg kj59
                          case measure => have := HK1.out; have := HK2.out; have := HK3.out; have := HJ33.out; have := HJ59.out; omega
                          case rel => exact ⟨(y292), (wrap64 (x8_3 + 1)), (by first | rfl | (simp; done) | (simp [*]; done)), H', ⟨by have := HK1.out; have := HK2.out; have := HK3.out; have := HJ33.out; have := HJ59.out; omega⟩, ⟨by (try simp only [hl5_2]); (try simp only [hl5_3]); (with_reducible repeat (first | apply Kd.S_alloc | apply Kd.S_drewN | apply Kd.S_drew)); exact Kd.S_mono HQ94.out (fun _ hk => trivial)⟩, ⟨by (try simp only [hl5_2]); (try simp only [hl5_3]); (with_reducible repeat (first | refine blk_drewN ?_ _ | refine blk_drew ?_ | refine blk_alloc ?_ _)); refine blk_far ?_ (by have h_ := Kd.R_ne HL288_0.out BK263.out (by decide); intro e_; exact h_ (by rw [e_]; rfl)) _; (with_reducible repeat (first | refine blk_drewN ?_ _ | refine blk_drew ?_ | refine blk_alloc ?_ _)); exact BK263.out⟩, ⟨by repeat (first | (with_reducible first | exact HB.out | apply below_alloc | apply pw_below_drewN | apply below_drew1 | refine below_set ?_ GB88.out | refine below_set ?_ GE263.out | refine below_set ?_ GE280.out | refine below_set ?_ GE283.out) | exact HB.out)⟩⟩
                    rw [if_pos c50] at H
                    have c50b0 : (((rd_T68 (rd_L7 x5_3 (ji42)) (ji47)).f0) == 0) = true := beq_iff_eq.mpr c50
                    have c50b1 : (((rd_T68 (rd_L7 x5_3 (ji42)) (ji47)).f0) != 0) = false := bne_eq_false_iff_eq.mpr c50
                    clear c50
                    have H' := Aside0.mk H
                    clear H
                    try go_wp2
                    have n0_ := Aside0.mk (Kd.S_drew HO_5.out)
                    have n1_ := Aside0.mk (blk_drew BK263.out)
                    have n2_ := Aside0.mk (below_drew1 HB.out)
                    clear HO_5
                    clear BK263
                    clear HB
                    have HO_5 := n0_
                    have BK263 := n1_
                    have HB := n2_
                    clear n0_ n1_ n2_
                    have p277 : 0 ≤ ((ji42) : Int) := of_decide_eq_true (by first | (with_reducible assumption) | assumption)
                    have q277 : (ji42) < (x5_3.length : Int) := of_decide_eq_true (by first | (with_reducible assumption) | assumption)
                    obtain ⟨ad277, A277_0, c277_0, e277, hx277_0, hl277_0, hi277_0⟩ := at_L7 (Kd.S_reads' HO_5.out).2.2 (ji42) p277 q277
                    obtain rfl : (⟨go17, 0, none⟩ : Addr) = ad277 := (by injection e277)
                    obtain ⟨ce277, hce277, hMe277, hcc277⟩ := Kd.S_get HO_5.out [] (ji42) p277 (by first | exact q277 | exact of_decide_eq_true (by first | (with_reducible assumption) | assumption) | (have e_ := (Kd.S_reads' HO_5.out).1; omega))
                    obtain ⟨ve277_0, rfl, ge277_0⟩ := hMe277
                    have hv277_0 := hcc277 0 _ rfl
                    rw [Nat.add_zero, show ((Kd.slice 68 k68)).sz = 1 from rfl, Nat.mul_one] at hv277_0
                    replace hv277_0 := Option.some.inj (hv277_0.symm.trans hx277_0)
                    rw [hv277_0] at ge277_0
                    have HL277_0 := Aside0.mk (show Kd.R k68 68 _ _ _ _ (rd_L7 x5_3 (ji42)) from ge277_0)
                    clear hv277_0 ge277_0
                    have HX277_0 := Aside0.mk hx277_0
                    clear hcc277 hce277
                    (first | simp only [add_plain] at hx277_0 | simp only [add_at] at hx277_0 | simp only [Addr.add, Nat.zero_add] at hx277_0 | skip)
                    have HR277_0 := Aside0.mk hi277_0
                    have HC277_0 := Aside0.mk hl277_0
                    clear hi277_0 hl277_0
                    replace p277 := eq_true p277
                    replace q277 := eq_true q277
                    have p278 : 0 ≤ (x6_1 : Int) := of_decide_eq_true (by first | (with_reducible assumption) | assumption)
                    have q278 : x6_1 < (l0_0.length : Int) := of_decide_eq_true (by first | (with_reducible assumption) | assumption)
                    obtain ⟨ad278, e278, hx278_0⟩ := Kd.at_int HR0_0.out x6_1 p278 q278
                    have hw278_0 := hx278_0
                    cases e278
                    replace hx278_0 := (HB.out.cell (World.block_lt_of_cell? w _ hx278_0)).trans hx278_0
                    replace p278 := eq_true p278
                    replace q278 := eq_true q278
                    have p279 : 0 ≤ ((ji47) : Int) := of_decide_eq_true (by first | (with_reducible assumption) | assumption)
                    have q279 : (ji47) < ((rd_L7 x5_3 (ji42)).length : Int) := of_decide_eq_true (by first | (with_reducible assumption) | assumption)
                    obtain ⟨ad279, e279, hx279_0, hx279_1⟩ := at_T68 (by repeat (first | (with_reducible exact HR277_0.out) | (with_reducible refine Kd.C_alloc ?_ _) | (with_reducible refine Kd.C_drewN ?_ _) | (with_reducible refine Kd.C_drew ?_) | exact HR277_0.out)) (ji47) p279 q279
                    cases e279
                    replace p279 := eq_true p279
                    replace q279 := eq_true q279
                    refine start_ (n := 18) (S := fun w' => w'.cell? ⟨gb263, 0, none⟩ = some (.slice (some ad278) l0_0.length c0_0) ∧ w'.cell? ⟨gb263, 1, none⟩ = some (.slice A0_1 l0_1.length c0_1) ∧ w'.cell? ⟨go17, ((ji42)).toNat, none⟩ = some (.slice (some ad279) (rd_L7 x5_3 (ji42)).length c277_0) ∧ w'.cell? (ad278.add (x6_1).toNat) = some (.int .i64 (rd l0_0 x6_1)) ∧ w'.cell? (ad279.add (((ji47)).toNat * 2)) = some (.int .i64 ((rd_T68 (rd_L7 x5_3 (ji42)) (ji47)).f0)) ∧ w'.cell? ⟨(ad279.add (((ji47)).toNat * 2)).block, (ad279.add (((ji47)).toNat * 2)).off + 1, none⟩ = some (.int .i64 ((rd_T68 (rd_L7 x5_3 (ji42)) (ji47)).f1))) (ds := []) #[false, false, false, false, false, false, false, false, false, false, false, false, false, false, false, false, false, false] (by kernel_rfl) rfl rfl ⟨(blk_cell BK263.out 0).trans rfl, (blk_cell BK263.out 1).trans rfl, hx277_0, ((HB.out.cell (World.block_lt_of_cell? w _ hw278_0)).trans hw278_0), hx279_0, hx279_1⟩ (fun hHeld => ?_); refine with_tabW impl_purse_table.tab14 impl_purse_table.bits14 (fun HT_ HW_ => ?_)
                    generalize wc.drew = w51 at HO_5 BK263 HB HL277_0 HR277_0 HX277_0 hx277_0 hx278_0 hx279_0 hx279_1 hHeld ⊢
                    refine pure_ (i := 0) (N := some 65) (v := ?_) (a' := ?_) #[true, false, false, false, false, false, false, false, false, false, false, false, false, false, false, false, false, false] rfl rfl (any_of HT_.out (by kernel_rfl)) (fun _ _ _ h => h) (Or.inl ⟨by rfl, ?_⟩) ?_ ?_
                    rotate_left
                    · intro w'
                      go_simp
                      with_reducible rfl
                    rotate_left
                    · simp only [Act.put, List.setIfInBounds_toArray, List.set_cons_zero, List.set_cons_succ, i64_w, i32_w]
                      rfl
                    refine pure_ (i := 1) (N := some 66) (v := ?_) (a' := ?_) #[true, true, false, false, false, false, false, false, false, false, false, false, false, false, false, false, false, false] rfl rfl (any_of HT_.out (by kernel_rfl)) (fun _ _ _ h => h) (Or.inl ⟨by rfl, ?_⟩) ?_ ?_
                    rotate_left
                    · intro w'
                      go_simp
                      with_reducible rfl
                    rotate_left
                    · simp only [Act.put, List.setIfInBounds_toArray, List.set_cons_zero, List.set_cons_succ, i64_w, i32_w]
                      rfl
                    refine pure_ (i := 2) (N := some 67) (v := ?_) (a' := ?_) #[true, true, true, false, false, false, false, false, false, false, false, false, false, false, false, false, false, false] rfl rfl (any_of HT_.out (by kernel_rfl)) (fun _ _ _ h => h) (Or.inl ⟨by rfl, ?_⟩) ?_ ?_
                    rotate_left
                    · intro w'
                      go_simp
                      with_reducible rfl
                    rotate_left
                    · simp only [Act.put, List.setIfInBounds_toArray, List.set_cons_zero, List.set_cons_succ, i64_w, i32_w]
                      rfl
                    refine pure_ (i := 3) (N := some 68) (v := ?_) (a' := ?_) #[true, true, true, true, false, false, false, false, false, false, false, false, false, false, false, false, false, false] rfl rfl (any_of HT_.out (by kernel_rfl)) (fun _ _ _ h => h) (Or.inl ⟨by rfl, ?_⟩) ?_ ?_
                    rotate_left
                    · intro w'
                      go_simp
                      with_reducible rfl
                    rotate_left
                    · simp only [Act.put, List.setIfInBounds_toArray, List.set_cons_zero, List.set_cons_succ, i64_w, i32_w]
                      rfl
                    refine pure_ (i := 5) (N := some 70) (v := ?_) (a' := ?_) #[true, true, true, true, false, true, false, false, false, false, false, false, false, false, false, false, false, false] rfl rfl (any_of HT_.out (by kernel_rfl)) (fun _ _ _ h => h) (Or.inl ⟨by rfl, ?_⟩) ?_ ?_
                    rotate_left
                    · intro w'
                      go_simp
                      with_reducible rfl
                    rotate_left
                    · simp only [Act.put, List.setIfInBounds_toArray, List.set_cons_zero, List.set_cons_succ, i64_w, i32_w]
                      rfl
                    refine pure_ (i := 6) (N := some 71) (v := ?_) (a' := ?_) #[true, true, true, true, false, true, true, false, false, false, false, false, false, false, false, false, false, false] rfl rfl (any_of HT_.out (by kernel_rfl)) (fun _ _ _ h => h) (Or.inl ⟨by rfl, ?_⟩) ?_ ?_
                    rotate_left
                    · intro w'
                      go_simp
                      with_reducible rfl
                    rotate_left
                    · simp only [Act.put, List.setIfInBounds_toArray, List.set_cons_zero, List.set_cons_succ, i64_w, i32_w]
                      rfl
                    refine pure_ (i := 7) (N := some 72) (v := ?_) (a' := ?_) #[true, true, true, true, false, true, true, true, false, false, false, false, false, false, false, false, false, false] rfl rfl (any_of HT_.out (by kernel_rfl)) (fun _ _ _ h => h) (Or.inl ⟨by rfl, ?_⟩) ?_ ?_
                    rotate_left
                    · intro w'
                      go_simp
                      with_reducible rfl
                    rotate_left
                    · simp only [Act.put, List.setIfInBounds_toArray, List.set_cons_zero, List.set_cons_succ, i64_w, i32_w]
                      rfl
                    refine pure_ (i := 9) (N := some 74) (v := ?_) (a' := ?_) #[true, true, true, true, false, true, true, true, false, true, false, false, false, false, false, false, false, false] rfl rfl (any_of HT_.out (by kernel_rfl)) (fun _ _ _ h => h) (Or.inl ⟨by rfl, ?_⟩) ?_ ?_
                    rotate_left
                    · intro w'
                      go_simp
                      with_reducible rfl
                    rotate_left
                    · simp only [Act.put, List.setIfInBounds_toArray, List.set_cons_zero, List.set_cons_succ, i64_w, i32_w]
                      rfl
                    refine take_ (i := 4) (N := some 69) (v := ?_) (a' := ?_) #[true, true, true, true, true, true, true, true, false, true, false, false, false, false, false, false, false, false] rfl rfl (take_ofW HT_.out HW_.out (by kernel_rfl)) (fun _ _ _ h => h) (Or.inl ⟨by rfl, ?_⟩) hHeld ?_ ?_
                    rotate_left
                    · rintro w' ⟨s0, s1, s2, s3, s4, s5⟩
                      go_simp
                      with_reducible rfl
                    rotate_left
                    · simp only [Act.put, List.setIfInBounds_toArray, List.set_cons_zero, List.set_cons_succ, i64_w, i32_w]
                      rfl
                    refine take_ (i := 8) (N := some 73) (v := ?_) (a' := ?_) #[true, true, true, true, true, true, true, true, true, true, false, false, false, false, false, false, false, false] rfl rfl (take_ofW HT_.out HW_.out (by kernel_rfl)) (fun _ _ _ h => h) (Or.inl ⟨by rfl, ?_⟩) hHeld ?_ ?_
                    rotate_left
                    · rintro w' ⟨s0, s1, s2, s3, s4, s5⟩
                      go_simp
                      with_reducible rfl
                    rotate_left
                    · simp only [Act.put, List.setIfInBounds_toArray, List.set_cons_zero, List.set_cons_succ, i64_w, i32_w]
                      rfl
                    refine pure_ (i := 10) (N := some 75) (v := ?_) (a' := ?_) #[true, true, true, true, true, true, true, true, true, true, true, false, false, false, false, false, false, false] rfl rfl (any_of HT_.out (by kernel_rfl)) (fun _ _ _ h => h) (Or.inl ⟨by rfl, ?_⟩) ?_ ?_
                    rotate_left
                    · intro w'
                      go_simp
                      with_reducible rfl
                    rotate_left
                    · simp only [Act.put, List.setIfInBounds_toArray, List.set_cons_zero, List.set_cons_succ, i64_w, i32_w]
                      rfl
                    refine take_ (i := 11) (N := some 76) (v := ?_) (a' := ?_) #[true, true, true, true, true, true, true, true, true, true, true, true, false, false, false, false, false, false] rfl rfl (take_ofW HT_.out HW_.out (by kernel_rfl)) (fun _ _ _ h => h) (Or.inl ⟨by rfl, ?_⟩) hHeld ?_ ?_
                    rotate_left
                    · rintro w' ⟨s0, s1, s2, s3, s4, s5⟩
                      go_simp
                      with_reducible rfl
                    rotate_left
                    · simp only [Act.put, List.setIfInBounds_toArray, List.set_cons_zero, List.set_cons_succ, i64_w, i32_w]
                      rfl
                    refine pure_ (i := 12) (N := some 77) (v := ?_) (a' := ?_) #[true, true, true, true, true, true, true, true, true, true, true, true, true, false, false, false, false, false] rfl rfl (any_of HT_.out (by kernel_rfl)) (fun _ _ _ h => h) (Or.inl ⟨by rfl, ?_⟩) ?_ ?_
                    rotate_left
                    · intro w'
                      go_simp
                      with_reducible rfl
                    rotate_left
                    · simp only [Act.put, List.setIfInBounds_toArray, List.set_cons_zero, List.set_cons_succ, i64_w, i32_w]
                      rfl
                    refine pure_ (i := 13) (N := some 78) (v := ?_) (a' := ?_) #[true, true, true, true, true, true, true, true, true, true, true, true, true, true, false, false, false, false] rfl rfl (any_of HT_.out (by kernel_rfl)) (fun _ _ _ h => h) (Or.inl ⟨by rfl, ?_⟩) ?_ ?_
                    rotate_left
                    · intro w'
                      go_simp
                      with_reducible rfl
                    rotate_left
                    · simp only [Act.put, List.setIfInBounds_toArray, List.set_cons_zero, List.set_cons_succ, i64_w, i32_w]
                      rfl
                    refine pure_ (i := 14) (N := some 79) (v := ?_) (a' := ?_) #[true, true, true, true, true, true, true, true, true, true, true, true, true, true, true, false, false, false] rfl rfl (any_of HT_.out (by kernel_rfl)) (fun _ _ _ h => h) (Or.inl ⟨by rfl, ?_⟩) ?_ ?_
                    rotate_left
                    · intro w'
                      go_simp
                      with_reducible rfl
                    rotate_left
                    · simp only [Act.put, List.setIfInBounds_toArray, List.set_cons_zero, List.set_cons_succ, i64_w, i32_w]
                      rfl
                    refine take_ (i := 15) (N := some 80) (v := ?_) (a' := ?_) #[true, true, true, true, true, true, true, true, true, true, true, true, true, true, true, true, false, false] rfl rfl (take_ofW HT_.out HW_.out (by kernel_rfl)) (fun _ _ _ h => h) (Or.inl ⟨by rfl, ?_⟩) hHeld ?_ ?_
                    rotate_left
                    · rintro w' ⟨s0, s1, s2, s3, s4, s5⟩
                      go_simp
                      with_reducible rfl
                    rotate_left
                    · simp only [Act.put, List.setIfInBounds_toArray, List.set_cons_zero, List.set_cons_succ, i64_w, i32_w]
                      rfl
                    refine one_ (i := 16) (N := some 9) #[true, true, true, true, true, true, true, true, true, true, true, true, true, true, true, true, true, false] rfl rfl (one_of HT_.out (by kernel_rfl)) (by decide) (fun K hK => ?_)
                    refine box_step ?hg (N := 9) ?hd (cs := #[.int .i64 0, .int .i64 0]) (t := 68) ?hr ?_; (case hd => rfl); (case hg => rfl); (case hr => first | (go_simp; done) | (go_simp; rfl))
                    intro gb280 hg w52 hbox hb
                    have HS2_ := (hb.cell (World.block_lt_of_cell? _ _ (hHeld.2.2.1))).trans (hHeld.2.2.1)
                    have HS4_ := (hb.cell (World.block_lt_of_cell? _ _ (hHeld.2.2.2.2.1))).trans (hHeld.2.2.2.2.1)
                    have HS5_ := (hb.cell (World.block_lt_of_cell? _ _ (hHeld.2.2.2.2.2))).trans (hHeld.2.2.2.2.2)
                    have n0_ := Aside0.mk (Kd.S_below (Kd.S_elderB (by (with_reducible repeat (first | apply Kd.S_alloc | apply Kd.S_drewN | apply Kd.S_drew)); exact HO_5.out) gb280 (Nat.le_of_eq hg.symm)) hb)
                    have n1_ := Aside0.mk (Kd.R_below (Kd.R_elderB (by (with_reducible repeat (first | apply Kd.R_alloc | apply Kd.R_drewN | apply Kd.R_drew)); exact HL277_0.out) gb280 (Nat.le_of_eq hg.symm)) hb)
                    have n2_ := Aside0.mk (blk_below (g := gb263) (o := .cells #[.slice (some ad278) l0_0.length c0_0, .slice A0_1 l0_1.length c0_1] 55 (0, 0)) (by (with_reducible repeat (first | refine blk_drewN ?_ _ | refine blk_drew ?_ | refine blk_alloc ?_ _)); exact BK263.out) hb)
                    have n3_ := Aside0.mk (Kd.C_below (by repeat (first | (with_reducible exact HR277_0.out) | (with_reducible refine Kd.C_alloc ?_ _) | (with_reducible refine Kd.C_drewN ?_ _) | (with_reducible refine Kd.C_drew ?_) | exact HR277_0.out)) hb)
                    have n4_ := Aside0.mk (pw_cell_below hb HX277_0.out)
                    have n5_ := Aside0.mk (below_step (by repeat (first | (with_reducible first | exact HB.out | apply below_alloc | apply pw_below_drewN | apply below_drew1 | refine below_set ?_ GE263.out) | exact HB.out)) hb)
                    have n6_ := Aside0.mk (hbox)
                    have n7_ := Aside0.mk ((by rw [hg]; exact (below_size (by repeat (first | (with_reducible first | exact HB.out | apply below_alloc | apply pw_below_drewN | apply below_drew1 | refine below_set ?_ GE263.out) | exact HB.out))) : w.heap.size ≤ gb280))
                    have n8_ := Aside0.mk ((by rw [hg]; exact (below_size (by repeat (first | (with_reducible first | exact HB.out | apply below_alloc | apply pw_below_drewN | apply below_drew1 | refine below_set ?_ GE263.out) | exact HB.out))) : w.heap.size ≤ gb280))
                    have n9_ := Aside0.mk ((by rw [hg]; exact Nat.ne_of_lt (blk_lt (g := gb263) (o := .cells #[.slice (some ad278) l0_0.length c0_0, .slice A0_1 l0_1.length c0_1] 55 (0, 0)) (by (with_reducible repeat (first | refine blk_drewN ?_ _ | refine blk_drew ?_ | refine blk_alloc ?_ _)); exact BK263.out)) : gb263 ≠ gb280))
                    have n10_ := Aside0.mk ((by rw [hg]; exact Nat.ne_of_gt (blk_lt (g := gb263) (o := .cells #[.slice (some ad278) l0_0.length c0_0, .slice A0_1 l0_1.length c0_1] 55 (0, 0)) (by (with_reducible repeat (first | refine blk_drewN ?_ _ | refine blk_drew ?_ | refine blk_alloc ?_ _)); exact BK263.out)) : gb280 ≠ gb263))
                    clear HO_5
                    clear HL277_0
                    clear BK263
                    clear HR277_0
                    clear HX277_0
                    clear HB
                    have HO_5 := n0_
                    have HL277_0 := n1_
                    have BK263 := n2_
                    have HR277_0 := n3_
                    have HX277_0 := n4_
                    have HB := n5_
                    have BK280 := n6_
                    have GW280 := n7_
                    have GE280 := n8_
                    have NB263_280 := n9_
                    have NB280_263 := n10_
                    clear n0_ n1_ n2_ n3_ n4_ n5_ n6_ n7_ n8_ n9_ n10_
                    clear hb hbox hg
                    refine hK.out _ _ ⟨(blk_cell BK263.out 0).trans rfl, (blk_cell BK263.out 1).trans rfl, HS2_, ((HB.out.cell (World.block_lt_of_cell? w _ hw278_0)).trans hw278_0), HS4_, HS5_⟩ (fun hHeld => ?_)
                    clear hK K
                    refine norm_ (a' := ?_) ?_ ?_
                    rotate_left
                    · show Act.put _ (some 9) _ = _
                      simp only [Act.put, List.setIfInBounds_toArray, List.set_cons_zero, List.set_cons_succ, i64_w, i32_w]
                      rfl
                    refine one_ (i := 17) (N := none) #[true, true, true, true, true, true, true, true, true, true, true, true, true, true, true, true, true, true] rfl rfl (one_of HT_.out (by kernel_rfl)) (by decide) (fun K hK => ?_)
                    have hs53 : w52.cell? ⟨gb280, 0, none⟩ = some (.int .i64 0) := (blk_cell BK280.out 0).trans rfl
                    have hfs53 := blk_frozen BK280.out 0
                    have hns53_0 := NB263_280.out
                    have hms53_0 := NB280_263.out
                    have hs54 : w52.cell? ⟨gb280, 1, none⟩ = some (.int .i64 0) := (blk_cell BK280.out 1).trans rfl
                    have hfs54 := blk_frozen BK280.out 1
                    have hns54_0 := NB263_280.out
                    have hms54_0 := NB280_263.out
                    refine skip_ (w1 := ?_) (by rfl) rfl ?_ ?_
                    rotate_left
                    · go_simp
                      rfl
                    refine hK.out _ _ ⟨((cell_far (p := ⟨gb280, _, none⟩) NB263_280.out _).trans (((cell_far (p := ⟨gb280, _, none⟩) NB263_280.out _).trans (hHeld.1)))), ((cell_far (p := ⟨gb280, _, none⟩) NB263_280.out _).trans (((cell_far (p := ⟨gb280, _, none⟩) NB263_280.out _).trans (hHeld.2.1)))), ((cell_far (p := ⟨gb280, _, none⟩) (by first | exact Kd.own_blk (Kd.S_away HO_5.out (fun _ hk => hk.2)) | (rw [add_block]; exact Kd.own_blk (Kd.S_away HO_5.out (fun _ hk => hk.2))) | (show (Addr.add _ _).block ≠ _; rw [add_block]; exact Kd.own_blk (Kd.S_away HO_5.out (fun _ hk => hk.2))) | (dsimp only; exact Kd.own_blk (Kd.S_away HO_5.out (fun _ hk => hk.2)))) _).trans (((cell_far (p := ⟨gb280, _, none⟩) (by first | exact Kd.own_blk (Kd.S_away HO_5.out (fun _ hk => hk.2)) | (rw [add_block]; exact Kd.own_blk (Kd.S_away HO_5.out (fun _ hk => hk.2))) | (show (Addr.add _ _).block ≠ _; rw [add_block]; exact Kd.own_blk (Kd.S_away HO_5.out (fun _ hk => hk.2))) | (dsimp only; exact Kd.own_blk (Kd.S_away HO_5.out (fun _ hk => hk.2)))) _).trans (hHeld.2.2.1)))), ((cell_far (p := ⟨gb280, _, none⟩) (by first | exact Nat.ne_of_lt (Nat.lt_of_lt_of_le (by have := World.block_lt_of_cell? _ _ hw278_0; first | rwa [add_block] at this | exact this) GW280.out) | (rw [add_block]; exact Nat.ne_of_lt (Nat.lt_of_lt_of_le (by have := World.block_lt_of_cell? _ _ hw278_0; first | rwa [add_block] at this | exact this) GW280.out)) | (show (Addr.add _ _).block ≠ _; rw [add_block]; exact Nat.ne_of_lt (Nat.lt_of_lt_of_le (by have := World.block_lt_of_cell? _ _ hw278_0; first | rwa [add_block] at this | exact this) GW280.out)) | (dsimp only; exact Nat.ne_of_lt (Nat.lt_of_lt_of_le (by have := World.block_lt_of_cell? _ _ hw278_0; first | rwa [add_block] at this | exact this) GW280.out))) _).trans (((cell_far (p := ⟨gb280, _, none⟩) (by first | exact Nat.ne_of_lt (Nat.lt_of_lt_of_le (by have := World.block_lt_of_cell? _ _ hw278_0; first | rwa [add_block] at this | exact this) GW280.out) | (rw [add_block]; exact Nat.ne_of_lt (Nat.lt_of_lt_of_le (by have := World.block_lt_of_cell? _ _ hw278_0; first | rwa [add_block] at this | exact this) GW280.out)) | (show (Addr.add _ _).block ≠ _; rw [add_block]; exact Nat.ne_of_lt (Nat.lt_of_lt_of_le (by have := World.block_lt_of_cell? _ _ hw278_0; first | rwa [add_block] at this | exact this) GW280.out)) | (dsimp only; exact Nat.ne_of_lt (Nat.lt_of_lt_of_le (by have := World.block_lt_of_cell? _ _ hw278_0; first | rwa [add_block] at this | exact this) GW280.out))) _).trans (hHeld.2.2.2.1)))), ((cell_far (p := ⟨gb280, _, none⟩) (by first | exact Kd.own_blk (Kd.R_away HL277_0.out (fun _ hk => hk.2)) | (rw [add_block]; exact Kd.own_blk (Kd.R_away HL277_0.out (fun _ hk => hk.2))) | (show (Addr.add _ _).block ≠ _; rw [add_block]; exact Kd.own_blk (Kd.R_away HL277_0.out (fun _ hk => hk.2))) | (dsimp only; exact Kd.own_blk (Kd.R_away HL277_0.out (fun _ hk => hk.2)))) _).trans (((cell_far (p := ⟨gb280, _, none⟩) (by first | exact Kd.own_blk (Kd.R_away HL277_0.out (fun _ hk => hk.2)) | (rw [add_block]; exact Kd.own_blk (Kd.R_away HL277_0.out (fun _ hk => hk.2))) | (show (Addr.add _ _).block ≠ _; rw [add_block]; exact Kd.own_blk (Kd.R_away HL277_0.out (fun _ hk => hk.2))) | (dsimp only; exact Kd.own_blk (Kd.R_away HL277_0.out (fun _ hk => hk.2)))) _).trans (hHeld.2.2.2.2.1)))), ((cell_far (p := ⟨gb280, _, none⟩) (by first | exact Kd.own_blk (Kd.R_away HL277_0.out (fun _ hk => hk.2)) | (rw [add_block]; exact Kd.own_blk (Kd.R_away HL277_0.out (fun _ hk => hk.2))) | (show (Addr.add _ _).block ≠ _; rw [add_block]; exact Kd.own_blk (Kd.R_away HL277_0.out (fun _ hk => hk.2))) | (dsimp only; exact Kd.own_blk (Kd.R_away HL277_0.out (fun _ hk => hk.2)))) _).trans (((cell_far (p := ⟨gb280, _, none⟩) (by first | exact Kd.own_blk (Kd.R_away HL277_0.out (fun _ hk => hk.2)) | (rw [add_block]; exact Kd.own_blk (Kd.R_away HL277_0.out (fun _ hk => hk.2))) | (show (Addr.add _ _).block ≠ _; rw [add_block]; exact Kd.own_blk (Kd.R_away HL277_0.out (fun _ hk => hk.2))) | (dsimp only; exact Kd.own_blk (Kd.R_away HL277_0.out (fun _ hk => hk.2)))) _).trans (hHeld.2.2.2.2.2))))⟩ (fun hHeld => ?_)
                    clear hK K
                    refine done_ (done_of HT_.out (by kernel_rfl)) ?_
                    have hnb55 := NB280_263.out
                    have hnc55 := NB263_280.out
                    have hcz56_0 : w52.cell? ⟨gb280, 0, none⟩ = some (.int .i64 0) := (blk_cell BK280.out 0).trans rfl
                    have hcz56_1 : w52.cell? ⟨gb280, 1, none⟩ = some (.int .i64 0) := (blk_cell BK280.out 1).trans rfl
                    have hfz56_0 := blk_frozen BK280.out 0
                    have hfz56_1 := blk_frozen BK280.out 1
                    try go_wp2
                    (try simp only [← hl5_3])
                    go_roundg kj33
                    case measure => have := HK1.out; have := HK2.out; have := HK3.out; have := HJ33.out; omega
                    case rel => exact ⟨(x5_3), (wrap64 (x8_3 + 1)), (by first | rfl | (simp; done) | (simp [*]; done)), H', ⟨by have := HK1.out; have := HK2.out; have := HK3.out; have := HJ33.out; omega⟩, ⟨by (try simp only [hl5_2]); (try simp only [hl5_3]); (with_reducible repeat (first | apply Kd.S_alloc | apply Kd.S_drewN | apply Kd.S_drew)); exact Kd.S_mono (Kd.S_far (p := ⟨gb280, 1, none⟩) (Kd.S_far (p := ⟨gb280, 0, none⟩) (Kd.S_mono HO_5.out (fun k_ hk => (⟨hk, hk.2⟩ : _ ∧ k_ ≠ gb280))) (fun _ hk => hk.2) (.int .i64 ((rd_T68 (rd_L7 x5_3 (ji42)) (ji47)).f0))) (fun _ hk => hk.2) (.int .i64 ((rd_T68 (rd_L7 x5_3 (ji42)) (ji47)).f1))) (fun _ hk => trivial)⟩, ⟨by (try simp only [hl5_2]); (try simp only [hl5_3]); (with_reducible repeat (first | refine blk_drewN ?_ _ | refine blk_drew ?_ | refine blk_alloc ?_ _)); refine blk_far ?_ NB263_280.out _; (with_reducible repeat (first | refine blk_drewN ?_ _ | refine blk_drew ?_ | refine blk_alloc ?_ _)); refine blk_far ?_ NB263_280.out _; (with_reducible repeat (first | refine blk_drewN ?_ _ | refine blk_drew ?_ | refine blk_alloc ?_ _)); exact BK263.out⟩, ⟨by repeat (first | (with_reducible first | exact HB.out | apply below_alloc | apply pw_below_drewN | apply below_drew1 | refine below_set ?_ GE263.out | refine below_set ?_ GE280.out) | exact HB.out)⟩⟩
      rw [if_pos c18] at H
      have c18b0 : (x6_1 == (l0_0.length : Int)) = true := beq_iff_eq.mpr c18
      have c18b1 : (x6_1 != (l0_0.length : Int)) = false := bne_eq_false_iff_eq.mpr c18
      clear c18
      by_cases c19 : 0 < ((rd_L7 y270 x6_1).length : Int)
      rotate_left
      · rw [if_neg c19] at H
        exact absurd H (by simp)
      rw [if_pos c19] at H
      have c19b0 : decide (0 < ((rd_L7 y270 x6_1).length : Int)) = true := decide_eq_true c19
      have c19b1 : decide (0 < (rd_L7 y270 x6_1).length) = true := decide_eq_true (by omega)
      clear c19
      obtain ⟨y272, hy272⟩ : ∃ y_ : List (S68), y_ = ((rd_L7 y270 x6_1).set (0 : Int).toNat (⟨1, 0⟩ : S68)) := ⟨_, rfl⟩
      replace H : (impl_purse_table.l0 k1 a1 (y270.set (x6_1 : Int).toNat y272) (wrap64 (x6_1 - 1)) l0_0 l0_1) = some r := by first | (rw [hy272]; with_reducible exact H) | (have H2_ := (Option.bind_some _ _).symm.trans H; rw [hy272]; with_reducible exact H2_) | (have H2_ := (Option.bind_some _ _).symm.trans H; with_reducible exact H2_) | with_reducible exact H | (rw [hy272]; exact H) | exact H
      have Ny272 := Aside0.mk hy272
      clear hy272
      obtain ⟨y274, hy274⟩ : ∃ y_ : List (List (S68)), y_ = (y270.set (x6_1 : Int).toNat y272) := ⟨_, rfl⟩
      replace H : (impl_purse_table.l0 k1 a1 y274 (wrap64 (x6_1 - 1)) l0_0 l0_1) = some r := by first | (rw [hy274]; with_reducible exact H) | (have H2_ := (Option.bind_some _ _).symm.trans H; rw [hy274]; with_reducible exact H2_) | (have H2_ := (Option.bind_some _ _).symm.trans H; with_reducible exact H2_) | with_reducible exact H | (rw [hy274]; exact H) | exact H
      have Ny274 := Aside0.mk hy274
      clear hy274
      have H' := Aside0.mk H
      clear H
      go_wp2_with (first | ((with_reducible refine gate_dst (N := 27) rfl ?_); refine Kd.R_make k68 _ 68 rfl (N := 27) rfl 69 _ _ rfl ji12 rfl rfl Try.underlying69 (.agg #[(.int .i64 0), (.int .i64 0)]) 16 info68 rfl (by decide) (by omega) z68 (ok := fun _ => True) (okp := fun _ => True) (k68_mkM _ _ _ z68 ) (fun _ hk => hk) trivial (of_decide_eq_true (by first | (with_reducible assumption) | assumption)) (Nat.le_trans (Nat.mul_le_mul_right _ (of_decide_eq_true (by first | (with_reducible assumption) | assumption) : ji12.toNat ≤ 17592186044416)) (by omega)) (Below.refl _ _) (Nat.le_refl _) ?_; intro v268 w21 ho22 hb hg_ hnew_; clear hg_ hnew_; (first | rw [← Ny267.out] at ho22 | (simp only [Int.reduceToNat] at ho22; rw [← Ny267.out] at ho22)); have n0_ := Aside0.mk (Kd.S_elder' (by (with_reducible repeat (first | apply Kd.S_alloc | apply Kd.S_drewN | apply Kd.S_drew)); exact HO_5.out) (Kd.R_base ho22) hb); have n1_ := Aside0.mk (Kd.R_lower ho22 (below_size (by repeat (first | (with_reducible first | exact HB.out | apply below_alloc | apply pw_below_drewN | apply below_drew1 | refine below_set ?_ GE263.out) | exact HB.out)))); have n2_ := Aside0.mk (blk_below (g := gb263) (o := .cells #[.slice A0_0 l0_0.length c0_0, .slice A0_1 l0_1.length c0_1] 55 (0, 0)) (by (with_reducible repeat (first | refine blk_drewN ?_ _ | refine blk_drew ?_ | refine blk_alloc ?_ _)); exact BK263.out) hb); have n3_ := Aside0.mk (below_step (by repeat (first | (with_reducible first | exact HB.out | apply below_alloc | apply pw_below_drewN | apply below_drew1 | refine below_set ?_ GE263.out) | exact HB.out)) hb); clear HO_5; clear BK263; clear HB; have HO_5 := n0_; have HO269 := n1_; have BK263 := n2_; have HB := n3_; clear n0_ n1_ n2_ n3_; clear hb ho22; have p17 : 0 ≤ (x6_1 : Int) := of_decide_eq_true (by first | (with_reducible assumption) | assumption); have q17 : (x6_1 : Int) < ((x5_1.length : Int) : Int) := of_decide_eq_true (by first | (with_reducible assumption) | assumption); obtain ⟨go17, co17, eo17, gb17, gl17, cl17, HG17⟩ := Kd.S_form HO_5.out (by omega); (first | cases eo17 | (injection eo17 with ea_ en_ ec_; (first | subst ea_ | (injection ea_ with ea_; subst ea_)); subst ec_; clear en_)); have GB17 := Aside0.mk gb17; have GG17 := Aside0.mk HG17; clear gb17 gl17 HG17; obtain ⟨_, ce17, hcl17, hM17, hcc17, hfr17, _, _⟩ := Kd.S_elem HO_5.out [] (x6_1 : Int) p17 q17; obtain ⟨ve17_0, rfl, ge17_0⟩ := id hM17; have hx17_0 := hcc17 0 _ rfl; have hf17_0 := hfr17 0; (try simp only [show ((Kd.slice 68 k68)).sz = 1 from rfl, Nat.mul_one, Nat.add_zero] at hx17_0); (try simp only [show ((Kd.slice 68 k68)).sz = 1 from rfl, Nat.mul_one, Nat.add_zero] at hf17_0); clear hcl17 hcc17 hfr17 hM17; replace p17 := eq_true p17; replace q17 := eq_true q17; have n_ := Aside0.mk (Kd.S_mono (ok' := (fun k_ => some k_ ≠ (v268 : Value).ownBlock)) HO_5.out (fun k_ hk => hk.2)); clear HO_5; have HO_5 := n_; clear n_; have HX23 := Aside0.mk (show Kd.S (Kd.slice 68 k68) 69 w21 w.heap.size (fun k_ => ((fun _ => True)) k_ ∧ ¬ ((fun k_ => some k_ = (v268 : Value).ownBlock)) k_) (.slice (some ⟨go17, 0, none⟩) x5_1.length co17) x5_1 from (by (with_reducible repeat (first | apply Kd.S_alloc | apply Kd.S_drewN | apply Kd.S_drew)); exact Kd.S_mono HO_5.out (fun k_ hk => ⟨trivial, fun e_ => hk e_⟩))); obtain ⟨oki23, ce23, hcl23, hM23, hcc23, hfr23, hoki23, hH23⟩ := Kd.S_elem HX23.out [] (x6_1 : Int) (of_decide_eq_true (by first | (with_reducible assumption) | assumption)) (by have h_ : (x6_1 : Int) < ((x5_1.length : Int) : Int) := of_decide_eq_true (by first | (with_reducible assumption) | assumption); first | exact h_ | (have e_ := (Kd.S_reads' HO_5.out).1; omega) | simpa using h_); obtain ⟨ve23_0, rfl, ge23_0⟩ := id hM23; have HP23 := Kd.S_seg hH23 (of_decide_eq_true (by first | (with_reducible assumption) | assumption)) (by have h_ : (x6_1 : Int) < ((x5_1.length : Int) : Int) := of_decide_eq_true (by first | (with_reducible assumption) | assumption); first | exact h_ | (have e_ := (Kd.S_reads' HO_5.out).1; omega) | simpa using h_) (seg := [v268]) (j := 0) (show 1 ≤ 1 from by decide) (x' := y267) (Kd.M_row (Kd.R_mono (Kd.R_tight rfl (Kd.R_mono (ok' := fun k_ => ((fun _ => True)) k_ ∧ k_ ≠ go17) (Kd.R_apart' (HO269.out) (Kd.S_typed HO_5.out) (by decide)) (fun k_ hk => ⟨trivial, fun e_ => (hk.2) (by rw [e_]; rfl)⟩))) (fun _ h_ => Or.inr (h_)))) (fun _ hk => hk) (fun k_ hk_ => ((Kd.R_mono (ok' := fun k_ => ((fun _ => True)) k_ ∧ k_ ≠ go17) (Kd.R_apart' (HO269.out) (Kd.S_typed HO_5.out) (by decide)) (fun k_ hk => ⟨trivial, fun e_ => (hk.2) (by rw [e_]; rfl)⟩))).1 k_ hk_.symm); have hx23_0 := hcc23 0 _ rfl; (try simp only [show ((Kd.slice 68 k68)).sz = 1 from rfl, Nat.mul_one, Nat.add_zero] at hx23_0); have hf23_0 := hfr23 0; (try simp only [show ((Kd.slice 68 k68)).sz = 1 from rfl, Nat.mul_one, Nat.add_zero] at hf23_0); clear hcl23 hcc23 hfr23 hM23 hoki23 hH23; (try simp only [show ((Kd.slice 68 k68)).sz = 1 from rfl, Nat.mul_one, Nat.add_zero] at HP23)) | ((with_reducible refine gate_store (t := 69) (p := 28) rfl ?_); refine store_event (t := 69) (p := 28) (v := ?vo_w24) (w1 := (w21.setCell ⟨go17, (x6_1 : Int).toNat, none⟩ (v268))) ?hg ?ho ?hn ?hr ?_; (case ho => rfl); (case hg => rfl); (case hn => rfl); (case hr => first | (go_simp; done) | (go_simp; rfl) | (obtain ⟨Az_, cz_, ez_⟩ := Kd.R_slice HO269.out; rw [ez_]; first | (go_simp; done) | (go_simp; rfl)) | (obtain ⟨Az_, cz_, ez_⟩ := Kd.S_slice HO269.out; rw [ez_]; first | (go_simp; done) | (go_simp; rfl)) | (obtain ⟨Az_, cz_, ez_⟩ := Kd.N_slice HO269.out; rw [ez_]; first | (go_simp; done) | (go_simp; rfl)) | (obtain ⟨Az_, cz_, ez_⟩ := Kd.Q_slice HO269.out; rw [ez_]; first | (go_simp; done) | (go_simp; rfl)) | (obtain ⟨Az_, cz_, ez_⟩ := Kd.V_slice HO269.out; rw [ez_]; first | (go_simp; done) | (go_simp; rfl))); intro w24 hw; have hg : w21.grownBy w24 (some go17) := (by rw [hw]; exact HP23.2); have hp_ : Kd.S (Kd.slice 68 k68) 69 w24 w.heap.size (fun _ => True) (.slice (some ⟨go17, 0, none⟩) x5_1.length co17) y270 := (by rw [hw, Ny270.out]; exact HP23.1); clear HP23; have n0_ := Aside0.mk (hp_); have n1_ := Aside0.mk (blk_grown (g := gb263) (o := .cells #[.slice A0_0 l0_0.length c0_0, .slice A0_1 l0_1.length c0_1] 55 (0, 0)) (by (with_reducible repeat (first | refine blk_drewN ?_ _ | refine blk_drew ?_ | refine blk_alloc ?_ _)); exact BK263.out) hg (Kd.S_ne HO_5.out BK263.out (by decide))); have n2_ := Aside0.mk ((by rw [hw]; exact below_set (HB.out) GB17.out : Below w.heap.size w w24)); clear HO_5; clear BK263; clear HB; clear HO269; have HO_5 := n0_; have BK263 := n1_; have HB := n2_; clear n0_ n1_ n2_; clear hg hw hp_; have hcz25_0 : w24.cell? ⟨gb263, 0, none⟩ = some (.slice A0_0 l0_0.length c0_0) := (blk_cell BK263.out 0).trans rfl; have hcz25_1 : w24.cell? ⟨gb263, 1, none⟩ = some (.slice A0_1 l0_1.length c0_1) := (blk_cell BK263.out 1).trans rfl; have hfz25_0 := blk_frozen BK263.out 0; have hfz25_1 := blk_frozen BK263.out 1; have p271 : 0 ≤ (x6_1 : Int) := of_decide_eq_true (by first | (with_reducible assumption) | assumption); have q271 : x6_1 < (y270.length : Int) := (by have h_ : (x6_1 : Int) < ((x5_1.length : Int) : Int) := of_decide_eq_true (by first | (with_reducible assumption) | assumption); first | (have e_ := (Kd.S_reads' HO_5.out).1; omega) | simpa only [Ny270.out, List.length_set] using h_); have ql271 : ((x6_1 : Int) < ((x5_1.length : Int) : Int)) = True := eq_true (of_decide_eq_true (by first | (with_reducible assumption) | assumption)); obtain ⟨ad271, A271_0, c271_0, e271, hx271_0, hl271_0, hi271_0⟩ := at_L7 (Kd.S_reads' HO_5.out).2.2 x6_1 p271 q271; obtain rfl : (⟨go17, 0, none⟩ : Addr) = ad271 := (by injection e271); obtain ⟨ce271, hce271, hMe271, hcc271⟩ := Kd.S_get HO_5.out [] x6_1 p271 (by first | exact q271 | exact of_decide_eq_true (by first | (with_reducible assumption) | assumption) | (have e_ := (Kd.S_reads' HO_5.out).1; omega)); obtain ⟨ve271_0, rfl, ge271_0⟩ := hMe271; have hv271_0 := hcc271 0 _ rfl; rw [Nat.add_zero, show ((Kd.slice 68 k68)).sz = 1 from rfl, Nat.mul_one] at hv271_0; replace hv271_0 := Option.some.inj (hv271_0.symm.trans hx271_0); rw [hv271_0] at ge271_0; have HL271_0 := Aside0.mk (show Kd.R k68 68 _ _ _ _ (rd_L7 y270 x6_1) from ge271_0); clear hv271_0 ge271_0; have HX271_0 := Aside0.mk hx271_0; clear hcc271 hce271; (first | simp only [add_plain] at hx271_0 | simp only [add_at] at hx271_0 | simp only [Addr.add, Nat.zero_add] at hx271_0 | skip); have HR271_0 := Aside0.mk hi271_0; have HC271_0 := Aside0.mk hl271_0; clear hi271_0 hl271_0; replace p271 := eq_true p271; replace q271 := eq_true q271; have p20 : 0 ≤ (0 : Int) := (by omega); have q20 : (0 : Int) < (((rd_L7 y270 x6_1).length : Int) : Int) := of_decide_eq_true (by first | (with_reducible assumption) | assumption); have qi20 : (0 < (rd_L7 y270 x6_1).length) = True := eq_true (by omega); obtain ⟨go20, co20, eo20, gb20, gl20, cl20, HG20⟩ := Kd.R_form HL271_0.out (by omega); (first | cases eo20 | (injection eo20 with ea_ en_ ec_; (first | subst ea_ | (injection ea_ with ea_; subst ea_)); subst ec_; clear en_)); have GB20 := Aside0.mk gb20; have GG20 := Aside0.mk HG20; clear gb20 gl20 HG20; obtain ⟨ce20, hcl20, hM20, hcc20, hfr20⟩ := Kd.R_elem HL271_0.out z68 (0 : Int) p20 q20; obtain rfl := k68_openM hM20; have hx20_0 : w24.cell? ⟨go20, (0 : Int).toNat * 2, none⟩ = some (.int .i64 ((rd_T68 (rd_L7 y270 x6_1) 0).f0)) := hcc20 0 _ rfl; have hx20_1 : w24.cell? ⟨go20, (0 : Int).toNat * 2 + 1, none⟩ = some (.int .i64 ((rd_T68 (rd_L7 y270 x6_1) 0).f1)) := hcc20 1 _ rfl; have hf20_0 : w24.frozen? ⟨go20, (0 : Int).toNat * 2, none⟩ = false := hfr20 0; have hf20_1 : w24.frozen? ⟨go20, (0 : Int).toNat * 2 + 1, none⟩ = false := hfr20 1; clear hcl20 hcc20 hfr20 hM20; (try rw [show ((0 : Int)).toNat = 0 from rfl] at hx20_0); (try simp only [Nat.reduceMul, Nat.zero_mul, Nat.zero_add, Nat.reduceAdd] at hx20_0); (try rw [show ((0 : Int)).toNat = 0 from rfl] at hf20_0); (try simp only [Nat.reduceMul, Nat.zero_mul, Nat.zero_add, Nat.reduceAdd] at hf20_0); (try rw [show ((0 : Int)).toNat = 0 from rfl] at hx20_1); (try simp only [Nat.reduceMul, Nat.zero_mul, Nat.zero_add, Nat.reduceAdd] at hx20_1); (try rw [show ((0 : Int)).toNat = 0 from rfl] at hf20_1); (try simp only [Nat.reduceMul, Nat.zero_mul, Nat.zero_add, Nat.reduceAdd] at hf20_1); replace p20 := eq_true p20; replace q20 := eq_true q20; have hq26 : (x6_1 : Int) < (y270.length : Int) := (by have h_ : (x6_1 : Int) < ((x5_1.length : Int) : Int) := of_decide_eq_true (by first | (with_reducible assumption) | assumption); first | exact h_ | (have e_ := (Kd.S_reads' HO_5.out).1; omega) | simpa only [Ny270.out, List.length_set] using h_); obtain ⟨oki26, ce26, hcl26, hM26, hcc26, hok26, hbk26⟩ := Kd.S_borrow HO_5.out [] (x6_1 : Int) (of_decide_eq_true (by first | (with_reducible assumption) | assumption)) (by first | exact hq26 | (have e_ := (Kd.S_reads' HO_5.out).1; omega)); obtain ⟨ve26_0, rfl, ge26_0⟩ := id hM26; have hv26 := hcc26 0 _ rfl; rw [Nat.add_zero, show ((Kd.slice 68 k68)).sz = 1 from rfl, Nat.mul_one] at hv26; replace hv26 := Option.some.inj (hv26.symm.trans HX271_0.out); subst hv26; clear hcc26 hcl26; replace ge26_0 := (show Kd.R k68 68 _ _ _ _ (rd_L7 y270 x6_1) from ge26_0); obtain ⟨cf26, hcl26, hN26, hcc26, hfr26⟩ := Kd.R_elem ge26_0 z68 (0 : Int) (by omega) (by have h_ : (0 : Int) < (((rd_L7 y270 x6_1).length : Int) : Int) := of_decide_eq_true (by first | (with_reducible assumption) | assumption); first | exact h_ | (have e_ := (Kd.R_reads' HR271_0.out).1; omega) | simpa using h_); obtain rfl := k68_openM hN26; have HP26 := Kd.R_seg ge26_0 (0 : Int) (by omega) (by have h_ : (0 : Int) < (((rd_L7 y270 x6_1).length : Int) : Int) := of_decide_eq_true (by first | (with_reducible assumption) | assumption); first | exact h_ | (have e_ := (Kd.R_reads' HR271_0.out).1; omega) | simpa using h_) (seg := [.int .i64 1, .int .i64 0]) (j := 0) hcl26 hcc26 (show 2 ≤ 2 from by decide) (x' := (⟨1, 0⟩ : S68)) (k68_mkM _ _ _ (⟨1, 0⟩ : S68)) (fun _ hk => hk); clear hcl26 hcc26 hfr26 hN26) | ((with_reducible refine gate_store (t := 68) (p := 39) rfl ?_); refine store_event (t := 68) (p := 39) (v := ?vo_w27) (w1 := ((w24.setCell ⟨go20, 0, none⟩ (.int .i64 1)).setCell ⟨go20, 1, none⟩ (.int .i64 0))) ?hg ?ho ?hn ?hr ?_; (case ho => rfl); (case hg => rfl); (case hn => rfl); (case hr => first | (go_simp; done) | (go_simp; rfl)); intro w27 hw; have hg : w24.grownBy w27 (some go20) := (by rw [hw]; exact HP26.2); have hz_ : Kd.R k68 68 w27 w.heap.size oki26 (.slice (some ⟨go20, 0, none⟩) (rd_L7 y270 x6_1).length c271_0) y272 := (by rw [hw, Ny272.out]; exact HP26.1); have hp_ : Kd.S (Kd.slice 68 k68) 69 w27 w.heap.size (fun _ => True) (.slice (some ⟨go17, 0, none⟩) x5_1.length co17) y274 := (by rw [Ny274.out]; exact hbk26 hg (fun k_ e_ => by injection e_ with e_; subst e_; exact ge26_0.1 _ rfl) (Kd.M_row hz_)); have hm_ := Kd.R_mono hz_ hok26; clear HP26 hbk26; have n0_ := Aside0.mk (hp_); have n1_ := Aside0.mk (blk_grown (g := gb263) (o := .cells #[.slice A0_0 l0_0.length c0_0, .slice A0_1 l0_1.length c0_1] 55 (0, 0)) (by (with_reducible repeat (first | refine blk_drewN ?_ _ | refine blk_drew ?_ | refine blk_alloc ?_ _)); exact BK263.out) hg (Kd.R_ne HL271_0.out BK263.out (by decide))); have n2_ := Aside0.mk ((by rw [hw]; exact below_set (below_set (HB.out) GB20.out) GB20.out : Below w.heap.size w w27)); have n3_ := Aside0.mk (hm_); have n4_ := Aside0.mk ((Kd.R_reads' hm_).2.1); clear HO_5; clear BK263; clear HB; clear HL271_0; have HO_5 := n0_; have BK263 := n1_; have HB := n2_; have HL298 := n3_; have HC273 := n4_; clear n0_ n1_ n2_ n3_ n4_; clear hg hw hp_ hz_ hm_ hok26))
      go_roundg k1
      case measure => have := HK1.out; omega
      case rel => exact ⟨(y274), (wrap64 (x6_1 - 1)), (by first | rfl | (simp; done) | (simp [*]; done)), H', ⟨by have := HK1.out; omega⟩, ⟨by (with_reducible repeat (first | apply Kd.S_alloc | apply Kd.S_drewN | apply Kd.S_drew)); exact HO_5.out⟩, ⟨by (with_reducible repeat (first | refine blk_drewN ?_ _ | refine blk_drew ?_ | refine blk_alloc ?_ _)); exact BK263.out⟩, ⟨by repeat (first | (with_reducible first | exact HB.out | apply below_alloc | apply pw_below_drewN | apply below_drew1 | refine below_set ?_ GE263.out) | exact HB.out)⟩⟩
end Go.Proofs.Ytaonlhjblocfkaa.P
