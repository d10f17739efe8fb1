/- Each Go function that the laws of this seat come to, as a plain Lean function, and the proof that a call of it returns what that function tells; no condition but those that each theorem states. Written by a program of this session over the kit's print. -/
import Derived.Test.YtipdmnibjkdpcaaP0
import Derived.Test.YtipdmnibjkdpcaaPspecl00In
import Derived.Test.YtipdmnibjkdpcaaPspecl02Rolls
import Derived.Test.YtipdmnibjkdpcaaPspecl02Try
namespace Go.Proofs.Ytipdmnibjkdpcaa.P
open Go.RowKit Go.Proofs.YtipdmnibjkdpcaaW.PrintWords Go.Proofs.YtipdmnibjkdpcaaW.PrintLast Go.Proofs.YtipdmnibjkdpcaaW.PrintMore
attribute [local go_sem] max2_int min2_int max_two min_two max_three min_three max_four min_four   -- for this text's walks alone
set_option linter.unusedVariables false
set_option linter.unusedSimpArgs false

/-! ### spec_FewestRolls: function 15, by hand -/
-- needs 35 29 34
theorem spec_FewestRolls.newLe {w0 W W1 : World} {g : Nat} {AC : Option Addr} {cC : Nat} {vR vL v1 : Value} {cu ro le le1 : List Int} {bu tr : Int} (h : spec_l02Try.StX w0 W g AC cC vR vL cu ro le bu tr) (ho : Kd.R (Kd.int .i64) 2 W1 W.heap.size (fun _ => True) v1 le1) (hb : Below W.heap.size W W1) :
    spec_l02Try.StX w0 (W1.setCell ⟨g, 2, none⟩ v1) g AC cC vR v1 cu ro le1 bu tr := by
  have hle : w0.heap.size ≤ W.heap.size := Nat.le_of_lt (Nat.lt_of_le_of_lt h.ge h.lt)
  exact ⟨blk_put (blk_below h.1 hb) 2 _ rfl, h.2.1, h.2.2.1, h.2.2.2.1, Kd.R_far (p := ⟨g, 2, none⟩) (Kd.R_mono (Kd.R_elder' h.rolls (Kd.R_base ho) hb) (fun k hk => ⟨hk.1.1, hk.2⟩)) (fun k hk => hk.1) _,
    Kd.R_far (p := ⟨g, 2, none⟩) (Kd.R_lower (Kd.R_mono (Kd.R_bound (Kd.R_new' (u := vR) ho (Kd.R_lt h.rolls))) (fun k hk => ⟨by have := hk.2.1; have := h.lt; omega, hk.1.2⟩)) hle) (fun k hk => hk.1) _⟩
mutual
def spec_FewestRolls.l0 : Nat → List Int → Int → Int → List Int → Int → Int → Option (List Int × Int × Int)
  | 0, _, _, _, _, _, _ => none
  | k + 1, cu, bu, lo, ro, tr, n => if 0 ≤ n ∧ n.toNat ≤ 1000000 then spec_FewestRolls.l1 k cu bu lo ro tr n (List.replicate n.toNat 0) 0 else none
def spec_FewestRolls.l1 : Nat → List Int → Int → Int → List Int → Int → Int → List Int → Int → Option (List Int × Int × Int)
  | 0, _, _, _, _, _, _, _, _ => none
  | k + 1, cu, bu, lo, ro, tr, n, le, i => if i < n then (if 0 ≤ i ∧ i < (le.length : Int) then spec_FewestRolls.l1 k cu bu lo ro tr n (le.set i.toNat lo) (wrap64 (i + 1)) else none) else
    (spec_l02Try.f k cu bu 0 ro le tr).bind fun t => (if t.1 = 1 then some (t.2.1, t.2.2.2, 0) else (if t.1 = -1 then some (([] : List Int), 0, 7) else spec_FewestRolls.l0 k cu bu lo t.2.1 t.2.2.2 (wrap64 (n + 1))))
end
def spec_FewestRolls.f (k : Nat) (l0 : List Int) (a1 : Int) (a2 : Int) : Option (List Int × Int × Int) := (spec_l00In.f a2 0 20000).bind fun b0 => (spec_l02Rolls.f k l0 a1 b0).bind fun t1 => (if t1 = 0 then spec_FewestRolls.l0 k l0 a2 a1 [] 0 0 else some (([] : List Int), 0, t1))
theorem spec_FewestRolls.mono_l : ∀ k, (∀ cu bu lo ro tr n, LeO (spec_FewestRolls.l0 k cu bu lo ro tr n) (spec_FewestRolls.l0 (k + 1) cu bu lo ro tr n)) ∧ (∀ cu bu lo ro tr n le i, LeO (spec_FewestRolls.l1 k cu bu lo ro tr n le i) (spec_FewestRolls.l1 (k + 1) cu bu lo ro tr n le i))
  | 0 => ⟨fun _ _ _ _ _ _ r h => by simp [spec_FewestRolls.l0] at h, fun _ _ _ _ _ _ _ _ r h => by simp [spec_FewestRolls.l1] at h⟩
  | k + 1 => by
    obtain ⟨ih0, ih1⟩ := spec_FewestRolls.mono_l k
    refine ⟨?_, ?_⟩
    · intro cu bu lo ro tr n
      unfold spec_FewestRolls.l0
      exact LeO.ite (ih1 _ _ _ _ _ _ _ _) (LeO.none _)
    · intro cu bu lo ro tr n le i
      unfold spec_FewestRolls.l1
      exact LeO.ite (LeO.ite (ih1 _ _ _ _ _ _ _ _) (LeO.none _)) (LeO.bind (spec_l02Try.mono _ _ _ _ _ _ _) (fun _ => LeO.ite (LeO.refl _) (LeO.ite (LeO.refl _) (ih0 _ _ _ _ _ _))))
theorem spec_FewestRolls.mono : ∀ a0 a1 a2 k, LeO (spec_FewestRolls.f k a0 a1 a2) (spec_FewestRolls.f (k + 1) a0 a1 a2) := by
  intro a0 a1 a2 k
  unfold spec_FewestRolls.f
  exact LeO.bind (LeO.refl _) (fun _ => LeO.bind (spec_l02Rolls.mono _ _ _ _) (fun _ => LeO.ite ((spec_FewestRolls.mono_l k).1 _ _ _ _ _ _) (LeO.refl _)))
set_option maxHeartbeats 16000000 in
set_option maxRecDepth 100000 in
theorem spec_FewestRolls.calls (k : Nat) (A0 : Option Addr) (c0 : Nat) (l0 : List Int) (a1 : Int) (a2 : Int) (r1 : List Int) (r2 : Int) (r3 : Int) (w : World) (hr0 : Kd.C (Kd.int .i64) w A0 l0.length l0) (hc0 : l0.length ≤ c0) (h : spec_FewestRolls.f k l0 a1 a2 = some (r1, r2, r3)) :
    Calls Try.prog 15 #[.slice A0 l0.length c0, .int .i64 a1, .int .i64 a2] w fun e w' => ∃ v0_ : Value, e = .returned (.tuple #[v0_, .int .i64 r2, .int .i64 r3]) ∧ Kd.R (Kd.int .i64) 2 w' w.heap.size (fun _ => True) v0_ r1 ∧ Below w.heap.size w w' := by
  have HR0 := Aside0.mk hr0
  have HC0 := Aside0.mk hc0
  clear hr0 hc0
  have HB := Aside0.mk (Below.refl w.heap.size w)
  unfold spec_FewestRolls.f at h
  obtain ⟨b0, A0_, H⟩ := Option.bind_eq_some_iff.mp h
  have AI := Aside0.mk A0_
  clear A0_ h
  obtain ⟨t1, A0_, H⟩ := Option.bind_eq_some_iff.mp H
  have AA := Aside0.mk A0_
  clear A0_
  by_cases c4 : t1 = 0
  · rw [if_pos c4] at H
    have c4b0 : (t1 == 0) = true := beq_iff_eq.mpr c4
    have c4b1 : (t1 != 0) = false := bne_eq_false_iff_eq.mpr c4
    clear c4
    have H' := Aside0.mk H
    clear H
    go_enter Try.func15, Try.ntmps15
    go_wp2_with (first | (go_at_call 34; (refine (spec_l00In.calls a2 0 20000 b0 _ AI.out).mono ?_); rintro e w3 ⟨rfl, hd_⟩; have n0_ := Aside0.mk (below_then HB.out HB.out.size hd_.below); clear HB hd_; have HB := n0_; clear n0_) | (go_at_call 29; (refine (spec_l02Rolls.calls k A0 c0 l0 a1 b0 t1 _ (Kd.C_below HR0.out (by repeat (first | (with_reducible first | exact HB.out | apply below_alloc | apply pw_below_drewN | apply below_drew1) | exact HB.out))) HC0.out AA.out).mono ?_); rintro e w4 ⟨rfl, hd_⟩; have n0_ := Aside0.mk (below_then HB.out HB.out.size hd_.below); clear HB hd_; have HB := n0_; clear n0_) | ((with_reducible refine gate_dst (N := 23) rfl ?_); refine Kd.R_lit (Kd.int .i64) _ 2 ?hg (N := 23) ?hd (xs := ([] : List Int)) (inner := []) (ok := fun _ => True) (okp := fun _ => True) ?hr ?hp (fun _ hk => hk) trivial (Below.refl _ _) (Nat.le_refl _) (by simp) ?_; (case hd => rfl); (case hg => rfl); (case hr => first | (go_simp; done) | (go_simp; rfl)); (case hp => exact (Reps.none _ _)); intro vl_ wl_ ho_ hb_ hg_ hnew_; clear hg_ hnew_; have HRL := Aside0.mk (Kd.R_lower ho_ (below_size (by repeat (first | (with_reducible first | exact HB.out | apply below_alloc | apply pw_below_drewN | apply below_drew1) | exact HB.out)))); have n1_ := Aside0.mk (below_step (by repeat (first | (with_reducible first | exact HB.out | apply below_alloc | apply pw_below_drewN | apply below_drew1) | exact HB.out)) hb_); clear HB ho_ hb_; have HB := n1_; clear n1_; obtain ⟨AL0, cL0, eL0⟩ := Kd.R_slice HRL.out; subst eL0) | ((with_reducible refine gate_dst (N := 26) rfl ?_); refine box_event ?hg (N := 26) ?hd (cs := #[.slice A0 l0.length c0, .slice AL0 0 cL0, .slice none 0 0, .int .i64 a2, .int .i64 0]) (t := 52) ?hr ?_; (case hd => rfl); (case hg => rfl); (case hr => first | (go_simp; done) | (go_simp; rfl)); intro g hg w6 hblk hb; have HSX := Aside0.mk (show spec_l02Try.StX w w6 g A0 c0 (.slice AL0 0 cL0) (.slice none 0 0) l0 [] [] a2 0 from ⟨hblk, by rw [hg]; exact below_size (by repeat (first | (with_reducible first | exact HB.out | apply below_alloc | apply pw_below_drewN | apply below_drew1) | exact HB.out)), HR0.out, HC0.out, Kd.R_mono (Kd.R_below (Kd.R_elderB (by (with_reducible repeat (first | apply Kd.R_drewN | apply Kd.R_drew)); exact HRL.out) g (by rw [hg]; exact Nat.le_refl _)) hb) (fun k_ hk_ => ⟨hk_.2, by simp [Value.ownBlock]⟩), Kd.R_nil _ _ _ _ _⟩); have n0_ := Aside0.mk (below_step (by repeat (first | (with_reducible first | exact HB.out | apply below_alloc | apply pw_below_drewN | apply below_drew1) | exact HB.out)) hb); clear HB; have HB := n0_; clear n0_ hg hblk hb))
    repeat (go_quiet (fail); try go_wp2_with (first | (go_at_call 34; (refine (spec_l00In.calls a2 0 20000 b0 _ AI.out).mono ?_); rintro e w3 ⟨rfl, hd_⟩; have n0_ := Aside0.mk (below_then HB.out HB.out.size hd_.below); clear HB hd_; have HB := n0_; clear n0_) | (go_at_call 29; (refine (spec_l02Rolls.calls k A0 c0 l0 a1 b0 t1 _ (Kd.C_below HR0.out (by repeat (first | (with_reducible first | exact HB.out | apply below_alloc | apply pw_below_drewN | apply below_drew1) | exact HB.out))) HC0.out AA.out).mono ?_); rintro e w4 ⟨rfl, hd_⟩; have n0_ := Aside0.mk (below_then HB.out HB.out.size hd_.below); clear HB hd_; have HB := n0_; clear n0_) | ((with_reducible refine gate_dst (N := 23) rfl ?_); refine Kd.R_lit (Kd.int .i64) _ 2 ?hg (N := 23) ?hd (xs := ([] : List Int)) (inner := []) (ok := fun _ => True) (okp := fun _ => True) ?hr ?hp (fun _ hk => hk) trivial (Below.refl _ _) (Nat.le_refl _) (by simp) ?_; (case hd => rfl); (case hg => rfl); (case hr => first | (go_simp; done) | (go_simp; rfl)); (case hp => exact (Reps.none _ _)); intro vl_ wl_ ho_ hb_ hg_ hnew_; clear hg_ hnew_; have HRL := Aside0.mk (Kd.R_lower ho_ (below_size (by repeat (first | (with_reducible first | exact HB.out | apply below_alloc | apply pw_below_drewN | apply below_drew1) | exact HB.out)))); have n1_ := Aside0.mk (below_step (by repeat (first | (with_reducible first | exact HB.out | apply below_alloc | apply pw_below_drewN | apply below_drew1) | exact HB.out)) hb_); clear HB ho_ hb_; have HB := n1_; clear n1_; obtain ⟨AL0, cL0, eL0⟩ := Kd.R_slice HRL.out; subst eL0) | ((with_reducible refine gate_dst (N := 26) rfl ?_); refine box_event ?hg (N := 26) ?hd (cs := #[.slice A0 l0.length c0, .slice AL0 0 cL0, .slice none 0 0, .int .i64 a2, .int .i64 0]) (t := 52) ?hr ?_; (case hd => rfl); (case hg => rfl); (case hr => first | (go_simp; done) | (go_simp; rfl)); intro g hg w6 hblk hb; have HSX := Aside0.mk (show spec_l02Try.StX w w6 g A0 c0 (.slice AL0 0 cL0) (.slice none 0 0) l0 [] [] a2 0 from ⟨hblk, by rw [hg]; exact below_size (by repeat (first | (with_reducible first | exact HB.out | apply below_alloc | apply pw_below_drewN | apply below_drew1) | exact HB.out)), HR0.out, HC0.out, Kd.R_mono (Kd.R_below (Kd.R_elderB (by (with_reducible repeat (first | apply Kd.R_drewN | apply Kd.R_drew)); exact HRL.out) g (by rw [hg]; exact Nat.le_refl _)) hb) (fun k_ hk_ => ⟨hk_.2, by simp [Value.ownBlock]⟩), Kd.R_nil _ _ _ _ _⟩); have n0_ := Aside0.mk (below_step (by repeat (first | (with_reducible first | exact HB.out | apply below_alloc | apply pw_below_drewN | apply below_drew1) | exact HB.out)) hb); clear HB; have HB := n0_; clear n0_ hg hblk hb)))
    go_loopg [11] k (fun kq v11 w' => ∃ (n : Int) (ro le : List Int) (tr : Int), v11 = .int .i64 n ∧ Aside0 (spec_FewestRolls.l0 kq l0 a2 a1 ro tr n = some (r1, r2, r3)) ∧ Aside0 (kq ≤ k) ∧ Aside0 (spec_l02Try.St w w' g l0 ro le a2 tr) ∧ Aside0 (Below w.heap.size w w'))
    case atStart => exact ⟨0, [], [], 0, rfl, H', ⟨Nat.le_refl _⟩, ⟨spec_l02Try.StX.st (by repeat (first | exact HSX.out | apply spec_l02Try.StX.drewN | apply spec_l02Try.StX.drew))⟩, ⟨by repeat (first | (with_reducible first | exact HB.out | apply below_alloc | apply pw_below_drewN | apply below_drew1) | exact HB.out)⟩⟩
    case round =>
      clear H' HSX HB AA AI HRL
      obtain ⟨n, ro, le, tr, rfl, HA, HK1, HST, HB⟩ := hrel
      cases gk with
      | zero => exact absurd HA.out (by simp [spec_FewestRolls.l0])
      | succ k1 =>
        have H := HA.out
        clear HA
        simp only [spec_FewestRolls.l0] at H
        by_cases c5 : 0 ≤ n ∧ n.toNat ≤ 1000000
        · rw [if_pos c5] at H
          have pn0 : 0 ≤ n := c5.1
          have hn5 := c5.2
          clear c5
          have H' := Aside0.mk H
          clear H
          obtain ⟨AC, cC, vR, vL, hX⟩ := HST.out
          obtain ⟨AR, cR, rfl⟩ := Kd.R_slice hX.rolls
          obtain ⟨AL, cL, rfl⟩ := Kd.R_slice hX.left
          have HSX := Aside0.mk hX
          clear hX HST
          go_wp2_with (first | ((with_reducible refine gate_dst (N := 31) rfl ?_); refine Kd.R_make (Kd.int .i64) _ 2 rfl (N := 31) rfl 22 _ _ rfl n rfl rfl Try.underlying22 (.int .i64 0) 8 info2 rfl (by decide) (by omega) 0 (ok := fun _ => True) (okp := fun _ => True) rfl (fun _ hk => hk) trivial pn0 (by omega) (Below.refl _ _) (Nat.le_refl _) ?_; intro v31 w31 ho hb hg_ hnew_; clear hg_ hnew_; obtain ⟨A31, c31, e31⟩ := Kd.R_slice ho; subst e31; have HX31 := Aside0.mk (spec_FewestRolls.newLe HSX.out ho hb); have HY31 := Aside0.mk (spec_l02Try.StX.below HSX.out hb); have hm2_ := spec_l02Try.StX.c2 HY31.out; have hmf_ := spec_l02Try.StX.fr HY31.out 2; have n1_ := Aside0.mk (below_step (by repeat (first | (with_reducible first | exact HB.out | apply below_alloc | apply pw_below_drewN | apply below_drew1) | exact HB.out)) hb); clear HB HSX ho hb; have HB := n1_; clear n1_) | ((with_reducible refine gate_store (t := 22) (p := 33) rfl ?_); refine store_event (t := 22) (p := 33) (v := ?vo_w33) (w1 := (w31.setCell ⟨g, 2, none⟩ (.slice A31 (List.replicate n.toNat (0 : Int)).length c31))) ?hgs ?hos ?hns ?hrs ?_; (case hos => rfl); (case hgs => rfl); (case hns => rfl); (case hrs => first | (go_simp; done) | (go_simp; rfl)); intro w33 hw_; have HST := Aside0.mk (show spec_l02Try.St w w33 g l0 ro (List.replicate n.toNat 0) a2 tr from by rw [hw_]; exact spec_l02Try.StX.st HX31.out); have n1_ := Aside0.mk (show Below w.heap.size w w33 from by rw [hw_]; exact below_set HB.out (spec_l02Try.StX.ge HX31.out)); clear HB HX31 HY31 hm2_ hmf_ hw_; have HB := n1_; clear n1_))
          repeat (go_quiet (fail); try go_wp2_with (first | ((with_reducible refine gate_dst (N := 31) rfl ?_); refine Kd.R_make (Kd.int .i64) _ 2 rfl (N := 31) rfl 22 _ _ rfl n rfl rfl Try.underlying22 (.int .i64 0) 8 info2 rfl (by decide) (by omega) 0 (ok := fun _ => True) (okp := fun _ => True) rfl (fun _ hk => hk) trivial pn0 (by omega) (Below.refl _ _) (Nat.le_refl _) ?_; intro v31 w31 ho hb hg_ hnew_; clear hg_ hnew_; obtain ⟨A31, c31, e31⟩ := Kd.R_slice ho; subst e31; have HX31 := Aside0.mk (spec_FewestRolls.newLe HSX.out ho hb); have HY31 := Aside0.mk (spec_l02Try.StX.below HSX.out hb); have hm2_ := spec_l02Try.StX.c2 HY31.out; have hmf_ := spec_l02Try.StX.fr HY31.out 2; have n1_ := Aside0.mk (below_step (by repeat (first | (with_reducible first | exact HB.out | apply below_alloc | apply pw_below_drewN | apply below_drew1) | exact HB.out)) hb); clear HB HSX ho hb; have HB := n1_; clear n1_) | ((with_reducible refine gate_store (t := 22) (p := 33) rfl ?_); refine store_event (t := 22) (p := 33) (v := ?vo_w33) (w1 := (w31.setCell ⟨g, 2, none⟩ (.slice A31 (List.replicate n.toNat (0 : Int)).length c31))) ?hgs ?hos ?hns ?hrs ?_; (case hos => rfl); (case hgs => rfl); (case hns => rfl); (case hrs => first | (go_simp; done) | (go_simp; rfl)); intro w33 hw_; have HST := Aside0.mk (show spec_l02Try.St w w33 g l0 ro (List.replicate n.toNat 0) a2 tr from by rw [hw_]; exact spec_l02Try.StX.st HX31.out); have n1_ := Aside0.mk (show Below w.heap.size w w33 from by rw [hw_]; exact below_set HB.out (spec_l02Try.StX.ge HX31.out)); clear HB HX31 HY31 hm2_ hmf_ hw_; have HB := n1_; clear n1_)))
          go_loopg [12] k1 (fun kq v12 w' => ∃ (i : Int) (le : List Int), v12 = .int .i64 i ∧ Aside0 (spec_FewestRolls.l1 kq l0 a2 a1 ro tr n le i = some (r1, r2, r3)) ∧ Aside0 (kq ≤ k1) ∧ Aside0 (spec_l02Try.St w w' g l0 ro le a2 tr) ∧ Aside0 (Below w.heap.size w w'))
          case atStart => exact ⟨0, _, rfl, H', ⟨Nat.le_refl _⟩, ⟨by obtain ⟨_, _, _, _, hq_⟩ := HST.out; exact spec_l02Try.StX.st (by repeat (first | exact hq_ | apply spec_l02Try.StX.drewN | apply spec_l02Try.StX.drew))⟩, ⟨by repeat (first | (with_reducible first | exact HB.out | apply below_alloc | apply pw_below_drewN | apply below_drew1) | exact HB.out)⟩⟩
          case round =>
            clear H' HST HB
            obtain ⟨i, le, rfl, HA, HK2, HST, HB⟩ := hrel
            cases gk with
            | zero => exact absurd HA.out (by simp [spec_FewestRolls.l1])
            | succ k2 =>
              have H := HA.out
              clear HA
              simp only [spec_FewestRolls.l1] at H
              obtain ⟨AC, cC, vR, vL, hX⟩ := HST.out
              obtain ⟨AR, cR, rfl⟩ := Kd.R_slice hX.rolls
              obtain ⟨AL, cL, rfl⟩ := Kd.R_slice hX.left
              by_cases c6 : i < n
              · rw [if_pos c6] at H
                have c6b : decide (i < n) = true := decide_eq_true c6
                clear c6
                by_cases c7 : 0 ≤ i ∧ i < (le.length : Int)
                · rw [if_pos c7] at H
                  have H' := Aside0.mk H
                  clear H
                  obtain ⟨gl, cL', el_, _, _, _⟩ := Kd.R_form hX.left (by omega)
                  obtain ⟨rfl, rfl⟩ : AL = some ⟨gl, 0, none⟩ ∧ cL = cL' := by injection el_ with a_ b_ c_; exact ⟨a_, c_⟩
                  clear el_
                  have pib : (0 ≤ i) = True := eq_true c7.1
                  have qib : (i < (le.length : Int)) = True := eq_true c7.2
                  have hc2 := spec_l02Try.StX.c2 hX
                  have hxl := spec_l02Try.StX.at_left hX i c7.1 c7.2
                  have hxf := spec_l02Try.StX.frz hX i c7.1 c7.2
                  have HSX := Aside0.mk hX
                  clear hX c7 HST
                  go_wp2_with (first | ((with_reducible refine gate_store (t := 2) (p := 45) rfl ?_); refine store_event (t := 2) (p := 45) (v := ?vo_w45) (w1 := (wr.setCell ⟨gl, i.toNat, none⟩ (.int .i64 a1))) ?hgs ?hos ?hns ?hrs ?_; (case hos => rfl); (case hgs => rfl); (case hns => rfl); (case hrs => first | (go_simp; done) | (go_simp; rfl)); intro w45 hw_; have n0_ := Aside0.mk (show spec_l02Try.St w w45 g l0 ro (le.set i.toNat a1) a2 tr from by rw [hw_]; exact spec_l02Try.StX.st (spec_l02Try.StX.setLe HSX.out i a1)); have n1_ := Aside0.mk (show Below w.heap.size w w45 from by rw [hw_]; exact below_set HB.out (spec_l02Try.StX.gel HSX.out)); clear HB HSX hw_; have HST := n0_; have HB := n1_; clear n0_ n1_))
                  repeat (go_quiet (fail); try go_wp2_with (first | ((with_reducible refine gate_store (t := 2) (p := 45) rfl ?_); refine store_event (t := 2) (p := 45) (v := ?vo_w45) (w1 := (wr.setCell ⟨gl, i.toNat, none⟩ (.int .i64 a1))) ?hgs ?hos ?hns ?hrs ?_; (case hos => rfl); (case hgs => rfl); (case hns => rfl); (case hrs => first | (go_simp; done) | (go_simp; rfl)); intro w45 hw_; have n0_ := Aside0.mk (show spec_l02Try.St w w45 g l0 ro (le.set i.toNat a1) a2 tr from by rw [hw_]; exact spec_l02Try.StX.st (spec_l02Try.StX.setLe HSX.out i a1)); have n1_ := Aside0.mk (show Below w.heap.size w w45 from by rw [hw_]; exact below_set HB.out (spec_l02Try.StX.gel HSX.out)); clear HB HSX hw_; have HST := n0_; have HB := n1_; clear n0_ n1_)))
                  go_roundg k2
                  case measure => have := HK1.out; have := HK2.out; omega
                  case rel => exact ⟨wrap64 (i + 1), _, rfl, H', ⟨by have := HK1.out; have := HK2.out; omega⟩, ⟨by obtain ⟨_, _, _, _, hq_⟩ := HST.out; exact spec_l02Try.StX.st (by repeat (first | exact hq_ | apply spec_l02Try.StX.drewN | apply spec_l02Try.StX.drew))⟩, ⟨by repeat (first | (with_reducible first | exact HB.out | apply below_alloc | apply pw_below_drewN | apply below_drew1) | exact HB.out)⟩⟩
                · rw [if_neg c7] at H
                  exact absurd H (by simp)
              · rw [if_neg c6] at H
                have c6b : decide (i < n) = false := decide_eq_false c6
                clear c6
                have HSX := Aside0.mk hX
                clear hX HST
                obtain ⟨⟨t3, ro3, le3, tr3⟩, A3_, H⟩ := Option.bind_eq_some_iff.mp H
                have A3 := Aside0.mk A3_
                clear A3_
                replace H : (if t3 = 1 then some (ro3, tr3, 0) else (if t3 = -1 then some (([] : List Int), 0, 7) else spec_FewestRolls.l0 k2 l0 a2 a1 ro3 tr3 (wrap64 (n + 1)))) = some (r1, r2, r3) := H
                by_cases c8 : t3 = 1
                · rw [if_pos c8] at H
                  subst c8
                  simp only [Option.some.injEq, Prod.mk.injEq] at H
                  obtain ⟨rfl, rfl, rfl⟩ := H
                  go_wp2_with (first | (go_at_call 35; (refine (spec_l02Try.calls w g l0 a2 k2 0 ro le tr 1 ro3 le3 tr3 _ (spec_l02Try.StX.st (by repeat (first | exact HSX.out | apply spec_l02Try.StX.drewN | apply spec_l02Try.StX.drew))) (by repeat (first | (with_reducible first | exact HB.out | apply below_alloc | apply pw_below_drewN | apply below_drew1) | exact HB.out)) A3.out).mono ?_); rintro e w9 ⟨rfl, hs_, hb_⟩; have HST := Aside0.mk hs_; have n1_ := Aside0.mk hb_; clear HSX HB hs_ hb_; have HB := n1_; clear n1_; obtain ⟨AC9, cC9, vR9, vL9, hX9⟩ := HST.out; obtain ⟨AR9, cR9, e9_⟩ := Kd.R_slice hX9.rolls; subst e9_; have HX9 := Aside0.mk hX9; clear hX9; have hz1_ := spec_l02Try.StX.c1 HX9.out; have hz4_ := spec_l02Try.StX.c4 HX9.out))
                  repeat (go_quiet (fail); try go_wp2_with (first | (go_at_call 35; (refine (spec_l02Try.calls w g l0 a2 k2 0 ro le tr 1 ro3 le3 tr3 _ (spec_l02Try.StX.st (by repeat (first | exact HSX.out | apply spec_l02Try.StX.drewN | apply spec_l02Try.StX.drew))) (by repeat (first | (with_reducible first | exact HB.out | apply below_alloc | apply pw_below_drewN | apply below_drew1) | exact HB.out)) A3.out).mono ?_); rintro e w9 ⟨rfl, hs_, hb_⟩; have HST := Aside0.mk hs_; have n1_ := Aside0.mk hb_; clear HSX HB hs_ hb_; have HB := n1_; clear n1_; obtain ⟨AC9, cC9, vR9, vL9, hX9⟩ := HST.out; obtain ⟨AR9, cR9, e9_⟩ := Kd.R_slice hX9.rolls; subst e9_; have HX9 := Aside0.mk hX9; clear hX9; have hz1_ := spec_l02Try.StX.c1 HX9.out; have hz4_ := spec_l02Try.StX.c4 HX9.out)))
                  go_ret3
                  exact ⟨_, rfl, (by (with_reducible repeat (first | apply Kd.R_alloc | apply Kd.R_drewN | apply Kd.R_drew)); exact Kd.R_mono (spec_l02Try.StX.rolls HX9.out) (fun _ _ => trivial)), by repeat (first | (with_reducible first | exact HB.out | apply below_alloc | apply pw_below_drewN | apply below_drew1) | exact HB.out)⟩
                · rw [if_neg c8] at H
                  have c8b : (t3 == 1) = false := beq_eq_false_iff_ne.mpr c8
                  by_cases c9 : t3 = -1
                  · rw [if_pos c9] at H
                    subst c9
                    simp only [Option.some.injEq, Prod.mk.injEq] at H
                    obtain ⟨rfl, rfl, rfl⟩ := H
                    go_wp2_with (first | (go_at_call 35; (refine (spec_l02Try.calls w g l0 a2 k2 0 ro le tr (-1) ro3 le3 tr3 _ (spec_l02Try.StX.st (by repeat (first | exact HSX.out | apply spec_l02Try.StX.drewN | apply spec_l02Try.StX.drew))) (by repeat (first | (with_reducible first | exact HB.out | apply below_alloc | apply pw_below_drewN | apply below_drew1) | exact HB.out)) A3.out).mono ?_); rintro e w9 ⟨rfl, hs_, hb_⟩; have HST := Aside0.mk hs_; have n1_ := Aside0.mk hb_; clear HSX HB hs_ hb_; have HB := n1_; clear n1_; obtain ⟨AC9, cC9, vR9, vL9, hX9⟩ := HST.out; obtain ⟨AR9, cR9, e9_⟩ := Kd.R_slice hX9.rolls; subst e9_; have HX9 := Aside0.mk hX9; clear hX9; have hz1_ := spec_l02Try.StX.c1 HX9.out; have hz4_ := spec_l02Try.StX.c4 HX9.out) | ((with_reducible refine gate_dst (N := 60) rfl ?_); refine Kd.R_lit (Kd.int .i64) _ 2 ?hg (N := 60) ?hd (xs := ([] : List Int)) (inner := []) (ok := fun _ => True) (okp := fun _ => True) ?hr ?hp (fun _ hk => hk) trivial (Below.refl _ _) (Nat.le_refl _) (by simp) ?_; (case hd => rfl); (case hg => rfl); (case hr => first | (go_simp; done) | (go_simp; rfl)); (case hp => exact (Reps.none _ _)); intro vl_ wl_ ho_ hb_ hg_ hnew_; clear hg_ hnew_; have HRL := Aside0.mk (Kd.R_lower ho_ (below_size (by repeat (first | (with_reducible first | exact HB.out | apply below_alloc | apply pw_below_drewN | apply below_drew1) | exact HB.out)))); have n1_ := Aside0.mk (below_step (by repeat (first | (with_reducible first | exact HB.out | apply below_alloc | apply pw_below_drewN | apply below_drew1) | exact HB.out)) hb_); clear HB ho_ hb_; have HB := n1_; clear n1_; obtain ⟨AL0, cL0, eL0⟩ := Kd.R_slice HRL.out; subst eL0))
                    repeat (go_quiet (fail); try go_wp2_with (first | (go_at_call 35; (refine (spec_l02Try.calls w g l0 a2 k2 0 ro le tr (-1) ro3 le3 tr3 _ (spec_l02Try.StX.st (by repeat (first | exact HSX.out | apply spec_l02Try.StX.drewN | apply spec_l02Try.StX.drew))) (by repeat (first | (with_reducible first | exact HB.out | apply below_alloc | apply pw_below_drewN | apply below_drew1) | exact HB.out)) A3.out).mono ?_); rintro e w9 ⟨rfl, hs_, hb_⟩; have HST := Aside0.mk hs_; have n1_ := Aside0.mk hb_; clear HSX HB hs_ hb_; have HB := n1_; clear n1_; obtain ⟨AC9, cC9, vR9, vL9, hX9⟩ := HST.out; obtain ⟨AR9, cR9, e9_⟩ := Kd.R_slice hX9.rolls; subst e9_; have HX9 := Aside0.mk hX9; clear hX9; have hz1_ := spec_l02Try.StX.c1 HX9.out; have hz4_ := spec_l02Try.StX.c4 HX9.out) | ((with_reducible refine gate_dst (N := 60) rfl ?_); refine Kd.R_lit (Kd.int .i64) _ 2 ?hg (N := 60) ?hd (xs := ([] : List Int)) (inner := []) (ok := fun _ => True) (okp := fun _ => True) ?hr ?hp (fun _ hk => hk) trivial (Below.refl _ _) (Nat.le_refl _) (by simp) ?_; (case hd => rfl); (case hg => rfl); (case hr => first | (go_simp; done) | (go_simp; rfl)); (case hp => exact (Reps.none _ _)); intro vl_ wl_ ho_ hb_ hg_ hnew_; clear hg_ hnew_; have HRL := Aside0.mk (Kd.R_lower ho_ (below_size (by repeat (first | (with_reducible first | exact HB.out | apply below_alloc | apply pw_below_drewN | apply below_drew1) | exact HB.out)))); have n1_ := Aside0.mk (below_step (by repeat (first | (with_reducible first | exact HB.out | apply below_alloc | apply pw_below_drewN | apply below_drew1) | exact HB.out)) hb_); clear HB ho_ hb_; have HB := n1_; clear n1_; obtain ⟨AL0, cL0, eL0⟩ := Kd.R_slice HRL.out; subst eL0)))
                    go_ret3
                    exact ⟨_, rfl, (by (with_reducible repeat (first | apply Kd.R_alloc | apply Kd.R_drewN | apply Kd.R_drew)); exact HRL.out), by repeat (first | (with_reducible first | exact HB.out | apply below_alloc | apply pw_below_drewN | apply below_drew1) | exact HB.out)⟩
                  · rw [if_neg c9] at H
                    have c9b : (t3 == -1) = false := beq_eq_false_iff_ne.mpr c9
                    have H' := Aside0.mk H
                    clear H
                    go_wp2_with (first | (go_at_call 35; (refine (spec_l02Try.calls w g l0 a2 k2 0 ro le tr t3 ro3 le3 tr3 _ (spec_l02Try.StX.st (by repeat (first | exact HSX.out | apply spec_l02Try.StX.drewN | apply spec_l02Try.StX.drew))) (by repeat (first | (with_reducible first | exact HB.out | apply below_alloc | apply pw_below_drewN | apply below_drew1) | exact HB.out)) A3.out).mono ?_); rintro e w9 ⟨rfl, hs_, hb_⟩; have HST := Aside0.mk hs_; have n1_ := Aside0.mk hb_; clear HSX HB hs_ hb_; have HB := n1_; clear n1_; obtain ⟨AC9, cC9, vR9, vL9, hX9⟩ := HST.out; obtain ⟨AR9, cR9, e9_⟩ := Kd.R_slice hX9.rolls; subst e9_; have HX9 := Aside0.mk hX9; clear hX9; have hz1_ := spec_l02Try.StX.c1 HX9.out; have hz4_ := spec_l02Try.StX.c4 HX9.out))
                    repeat (go_quiet (fail); try go_wp2_with (first | (go_at_call 35; (refine (spec_l02Try.calls w g l0 a2 k2 0 ro le tr t3 ro3 le3 tr3 _ (spec_l02Try.StX.st (by repeat (first | exact HSX.out | apply spec_l02Try.StX.drewN | apply spec_l02Try.StX.drew))) (by repeat (first | (with_reducible first | exact HB.out | apply below_alloc | apply pw_below_drewN | apply below_drew1) | exact HB.out)) A3.out).mono ?_); rintro e w9 ⟨rfl, hs_, hb_⟩; have HST := Aside0.mk hs_; have n1_ := Aside0.mk hb_; clear HSX HB hs_ hb_; have HB := n1_; clear n1_; obtain ⟨AC9, cC9, vR9, vL9, hX9⟩ := HST.out; obtain ⟨AR9, cR9, e9_⟩ := Kd.R_slice hX9.rolls; subst e9_; have HX9 := Aside0.mk hX9; clear hX9; have hz1_ := spec_l02Try.StX.c1 HX9.out; have hz4_ := spec_l02Try.StX.c4 HX9.out)))
                    go_roundg k2
                    case measure => have := HK1.out; have := HK2.out; omega
                    case rel => exact ⟨wrap64 (n + 1), ro3, le3, tr3, (by first | rfl | (rw [show wrap64 (n + 1) = n + 1 from by unfold wrap64; omega])), H', ⟨by have := HK1.out; have := HK2.out; omega⟩, ⟨spec_l02Try.StX.st (by repeat (first | exact HX9.out | apply spec_l02Try.StX.drewN | apply spec_l02Try.StX.drew))⟩, ⟨by repeat (first | (with_reducible first | exact HB.out | apply below_alloc | apply pw_below_drewN | apply below_drew1) | exact HB.out)⟩⟩
        · rw [if_neg c5] at H
          exact absurd H (by simp)
  · rw [if_neg c4] at H
    have c4b0 : (t1 == 0) = false := beq_eq_false_iff_ne.mpr c4
    have c4b1 : (t1 != 0) = true := bne_iff_ne.mpr c4
    clear c4
    simp only [Option.some.injEq, Prod.mk.injEq] at H
    obtain ⟨rfl, rfl, rfl⟩ := H
    go_enter Try.func15, Try.ntmps15
    go_wp2_with (first | (go_at_call 34; (refine (spec_l00In.calls a2 0 20000 b0 _ AI.out).mono ?_); rintro e w3 ⟨rfl, hd_⟩; have n0_ := Aside0.mk (below_then HB.out HB.out.size hd_.below); clear HB hd_; have HB := n0_; clear n0_) | (go_at_call 29; (refine (spec_l02Rolls.calls k A0 c0 l0 a1 b0 t1 _ (Kd.C_below HR0.out (by repeat (first | (with_reducible first | exact HB.out | apply below_alloc | apply pw_below_drewN | apply below_drew1) | exact HB.out))) HC0.out AA.out).mono ?_); rintro e w4 ⟨rfl, hd_⟩; have n0_ := Aside0.mk (below_then HB.out HB.out.size hd_.below); clear HB hd_; have HB := n0_; clear n0_) | ((with_reducible refine gate_dst (N := 20) rfl ?_); refine Kd.R_lit (Kd.int .i64) _ 2 ?hg (N := 20) ?hd (xs := ([] : List Int)) (inner := []) (ok := fun _ => True) (okp := fun _ => True) ?hr ?hp (fun _ hk => hk) trivial (Below.refl _ _) (Nat.le_refl _) (by simp) ?_; (case hd => rfl); (case hg => rfl); (case hr => first | (go_simp; done) | (go_simp; rfl)); (case hp => exact (Reps.none _ _)); intro vl_ wl_ ho_ hb_ hg_ hnew_; clear hg_ hnew_; have HRL := Aside0.mk (Kd.R_lower ho_ (below_size (by repeat (first | (with_reducible first | exact HB.out | apply below_alloc | apply pw_below_drewN | apply below_drew1) | exact HB.out)))); have n1_ := Aside0.mk (below_step (by repeat (first | (with_reducible first | exact HB.out | apply below_alloc | apply pw_below_drewN | apply below_drew1) | exact HB.out)) hb_); clear HB ho_ hb_; have HB := n1_; clear n1_; obtain ⟨AL0, cL0, eL0⟩ := Kd.R_slice HRL.out; subst eL0))
    repeat (go_quiet (fail); try go_wp2_with (first | (go_at_call 34; (refine (spec_l00In.calls a2 0 20000 b0 _ AI.out).mono ?_); rintro e w3 ⟨rfl, hd_⟩; have n0_ := Aside0.mk (below_then HB.out HB.out.size hd_.below); clear HB hd_; have HB := n0_; clear n0_) | (go_at_call 29; (refine (spec_l02Rolls.calls k A0 c0 l0 a1 b0 t1 _ (Kd.C_below HR0.out (by repeat (first | (with_reducible first | exact HB.out | apply below_alloc | apply pw_below_drewN | apply below_drew1) | exact HB.out))) HC0.out AA.out).mono ?_); rintro e w4 ⟨rfl, hd_⟩; have n0_ := Aside0.mk (below_then HB.out HB.out.size hd_.below); clear HB hd_; have HB := n0_; clear n0_) | ((with_reducible refine gate_dst (N := 20) rfl ?_); refine Kd.R_lit (Kd.int .i64) _ 2 ?hg (N := 20) ?hd (xs := ([] : List Int)) (inner := []) (ok := fun _ => True) (okp := fun _ => True) ?hr ?hp (fun _ hk => hk) trivial (Below.refl _ _) (Nat.le_refl _) (by simp) ?_; (case hd => rfl); (case hg => rfl); (case hr => first | (go_simp; done) | (go_simp; rfl)); (case hp => exact (Reps.none _ _)); intro vl_ wl_ ho_ hb_ hg_ hnew_; clear hg_ hnew_; have HRL := Aside0.mk (Kd.R_lower ho_ (below_size (by repeat (first | (with_reducible first | exact HB.out | apply below_alloc | apply pw_below_drewN | apply below_drew1) | exact HB.out)))); have n1_ := Aside0.mk (below_step (by repeat (first | (with_reducible first | exact HB.out | apply below_alloc | apply pw_below_drewN | apply below_drew1) | exact HB.out)) hb_); clear HB ho_ hb_; have HB := n1_; clear n1_; obtain ⟨AL0, cL0, eL0⟩ := Kd.R_slice HRL.out; subst eL0)))
    go_ret3
    exact ⟨_, rfl, (by (with_reducible repeat (first | apply Kd.R_alloc | apply Kd.R_drewN | apply Kd.R_drew)); exact HRL.out), by repeat (first | (with_reducible first | exact HB.out | apply below_alloc | apply pw_below_drewN | apply below_drew1) | exact HB.out)⟩

end Go.Proofs.Ytipdmnibjkdpcaa.P
