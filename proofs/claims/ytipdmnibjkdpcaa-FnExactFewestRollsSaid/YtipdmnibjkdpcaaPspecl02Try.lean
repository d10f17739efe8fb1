/- Each Go function that the laws of this seat come to, as a plain Lean function, and the proof that a call of it returns what that function tells; no condition but those that each theorem states. Written by a program of this session over the kit's print. -/
import Derived.Test.YtipdmnibjkdpcaaP0
import Derived.Test.YtipdmnibjkdpcaaPspecl00Max
namespace Go.Proofs.Ytipdmnibjkdpcaa.P
open Go.RowKit Go.Proofs.YtipdmnibjkdpcaaW.PrintWords Go.Proofs.YtipdmnibjkdpcaaW.PrintLast Go.Proofs.YtipdmnibjkdpcaaW.PrintMore
attribute [local go_sem] max2_int min2_int max_two min_two max_three min_three max_four min_four   -- for this text's walks alone
set_option linter.unusedVariables false
set_option linter.unusedSimpArgs false

/-! ### spec_l02Try: function 35, by hand -/
-- needs 56
/-- The state of the search: the cuts, the rolls so far, what is left of each roll, the budget, the tries. -/
def spec_l02Try.StX (w0 W : World) (g : Nat) (AC : Option Addr) (cC : Nat) (vR vL : Value) (cu ro le : List Int) (bu tr : Int) : Prop :=
  W.heap[g]? = some (.cells #[.slice AC cu.length cC, vR, vL, .int .i64 bu, .int .i64 tr] 52 (0, 0)) ∧ w0.heap.size ≤ g ∧ Kd.C (Kd.int .i64) w0 AC cu.length cu ∧ cu.length ≤ cC ∧
    Kd.R (Kd.int .i64) 2 W w0.heap.size (fun k => k ≠ g ∧ some k ≠ vL.ownBlock) vR ro ∧ Kd.R (Kd.int .i64) 2 W w0.heap.size (fun k => k ≠ g ∧ some k ≠ vR.ownBlock) vL le
def spec_l02Try.St (w0 W : World) (g : Nat) (cu ro le : List Int) (bu tr : Int) : Prop := ∃ AC cC vR vL, spec_l02Try.StX w0 W g AC cC vR vL cu ro le bu tr
section
variable {w0 W W1 : World} {g gl : Nat} {AC : Option Addr} {cC : Nat} {vR vL : Value} {cu ro le : List Int} {bu tr : Int}
theorem spec_l02Try.StX.st (h : spec_l02Try.StX w0 W g AC cC vR vL cu ro le bu tr) : spec_l02Try.St w0 W g cu ro le bu tr := ⟨_, _, _, _, h⟩
theorem spec_l02Try.StX.blk (h : spec_l02Try.StX w0 W g AC cC vR vL cu ro le bu tr) : W.heap[g]? = some (.cells #[.slice AC cu.length cC, vR, vL, .int .i64 bu, .int .i64 tr] 52 (0, 0)) := h.1
theorem spec_l02Try.StX.ge (h : spec_l02Try.StX w0 W g AC cC vR vL cu ro le bu tr) : w0.heap.size ≤ g := h.2.1
theorem spec_l02Try.StX.lt (h : spec_l02Try.StX w0 W g AC cC vR vL cu ro le bu tr) : g < W.heap.size := blk_lt h.1
theorem spec_l02Try.StX.cuts (h : spec_l02Try.StX w0 W g AC cC vR vL cu ro le bu tr) : Kd.C (Kd.int .i64) w0 AC cu.length cu := h.2.2.1
theorem spec_l02Try.StX.capC (h : spec_l02Try.StX w0 W g AC cC vR vL cu ro le bu tr) : cu.length ≤ cC := h.2.2.2.1
theorem spec_l02Try.StX.rolls (h : spec_l02Try.StX w0 W g AC cC vR vL cu ro le bu tr) : Kd.R (Kd.int .i64) 2 W w0.heap.size (fun k => k ≠ g ∧ some k ≠ vL.ownBlock) vR ro := h.2.2.2.2.1
theorem spec_l02Try.StX.left (h : spec_l02Try.StX w0 W g AC cC vR vL cu ro le bu tr) : Kd.R (Kd.int .i64) 2 W w0.heap.size (fun k => k ≠ g ∧ some k ≠ vR.ownBlock) vL le := h.2.2.2.2.2
theorem spec_l02Try.StX.below (h : spec_l02Try.StX w0 W g AC cC vR vL cu ro le bu tr) (hb : Below W.heap.size W W1) : spec_l02Try.StX w0 W1 g AC cC vR vL cu ro le bu tr := ⟨blk_below h.1 hb, h.2.1, h.2.2.1, h.2.2.2.1, Kd.R_below h.rolls hb, Kd.R_below h.left hb⟩
theorem spec_l02Try.StX.drewN (h : spec_l02Try.StX w0 W g AC cC vR vL cu ro le bu tr) (m : Nat) : spec_l02Try.StX w0 (W.drewN m) g AC cC vR vL cu ro le bu tr := h.below (pw_below_drewN (Below.refl _ _) m)
theorem spec_l02Try.StX.drew (h : spec_l02Try.StX w0 W g AC cC vR vL cu ro le bu tr) : spec_l02Try.StX w0 W.drew g AC cC vR vL cu ro le bu tr := h.below (below_drew (Below.refl _ _))
theorem spec_l02Try.StX.at_ {m : Nat} (hq : W.drewN m = W1) (h : spec_l02Try.StX w0 W g AC cC vR vL cu ro le bu tr) : spec_l02Try.StX w0 W1 g AC cC vR vL cu ro le bu tr := by subst hq; exact h.drewN m
theorem spec_l02Try.StX.c0 (h : spec_l02Try.StX w0 W g AC cC vR vL cu ro le bu tr) : W.cell? ⟨g, 0, none⟩ = some (.slice AC cu.length cC) := (blk_cell h.1 0).trans rfl
theorem spec_l02Try.StX.c1 (h : spec_l02Try.StX w0 W g AC cC vR vL cu ro le bu tr) : W.cell? ⟨g, 1, none⟩ = some vR := (blk_cell h.1 1).trans rfl
theorem spec_l02Try.StX.c2 (h : spec_l02Try.StX w0 W g AC cC vR vL cu ro le bu tr) : W.cell? ⟨g, 2, none⟩ = some vL := (blk_cell h.1 2).trans rfl
theorem spec_l02Try.StX.c3 (h : spec_l02Try.StX w0 W g AC cC vR vL cu ro le bu tr) : W.cell? ⟨g, 3, none⟩ = some (.int .i64 bu) := (blk_cell h.1 3).trans rfl
theorem spec_l02Try.StX.c4 (h : spec_l02Try.StX w0 W g AC cC vR vL cu ro le bu tr) : W.cell? ⟨g, 4, none⟩ = some (.int .i64 tr) := (blk_cell h.1 4).trans rfl
theorem spec_l02Try.StX.fr (h : spec_l02Try.StX w0 W g AC cC vR vL cu ro le bu tr) (i : Nat) : W.frozen? ⟨g, i, none⟩ = false := blk_frozen h.1 i
theorem spec_l02Try.StX.at_left {cL n : Nat} (h : spec_l02Try.StX w0 W g AC cC vR (.slice (some ⟨gl, 0, none⟩) n cL) cu ro le bu tr) (x : Int) (h0 : 0 ≤ x) (h1 : x < (n : Int)) : W.cell? ⟨gl, x.toNat, none⟩ = some (.int .i64 (rd le x)) := (Kd.R_celln 0 h.left x h0 h1).1
theorem spec_l02Try.StX.frz {cL n : Nat} (h : spec_l02Try.StX w0 W g AC cC vR (.slice (some ⟨gl, 0, none⟩) n cL) cu ro le bu tr) (x : Int) (h0 : 0 ≤ x) (h1 : x < (n : Int)) : W.frozen? ⟨gl, x.toNat, none⟩ = false := (Kd.R_celln 0 h.left x h0 h1).2
theorem spec_l02Try.StX.gel {cL n : Nat} (h : spec_l02Try.StX w0 W g AC cC vR (.slice (some ⟨gl, 0, none⟩) n cL) cu ro le bu tr) : w0.heap.size ≤ gl := Kd.R_base h.left gl rfl
theorem spec_l02Try.StX.at_cut {ad : Addr} (h : spec_l02Try.StX w0 W g (some ad) cC vR vL cu ro le bu tr) (hb : Below w0.heap.size w0 W) {y : Int} (hy : 0 ≤ y ∧ y < (cu.length : Int)) : W.cell? (ad.add y.toNat) = some (.int .i64 (rd cu y)) := by
  obtain ⟨ad', e, hx⟩ := Kd.at_int (Kd.C_below h.cuts hb) y hy.1 hy.2
  cases e
  exact hx
theorem spec_l02Try.StX.some_cut (h : spec_l02Try.StX w0 W g AC cC vR vL cu ro le bu tr) {y : Int} (hy : 0 ≤ y ∧ y < (cu.length : Int)) : ∃ ad, AC = some ad := by
  obtain ⟨ad', e, _⟩ := Kd.at_int h.cuts y hy.1 hy.2
  exact ⟨ad', e⟩
theorem spec_l02Try.StX.setTr (h : spec_l02Try.StX w0 W g AC cC vR vL cu ro le bu tr) (y : Int) : spec_l02Try.StX w0 (W.setCell ⟨g, 4, none⟩ (.int .i64 y)) g AC cC vR vL cu ro le bu y :=
  ⟨blk_put h.1 4 _ rfl, h.2.1, h.2.2.1, h.2.2.2.1, Kd.R_far (p := ⟨g, 4, none⟩) h.rolls (fun k hk => hk.1) _, Kd.R_far (p := ⟨g, 4, none⟩) h.left (fun k hk => hk.1) _⟩
theorem spec_l02Try.StX.setLe {cL n : Nat} (h : spec_l02Try.StX w0 W g AC cC vR (.slice (some ⟨gl, 0, none⟩) n cL) cu ro le bu tr) (x y : Int) : spec_l02Try.StX w0 (W.setCell ⟨gl, x.toNat, none⟩ (.int .i64 y)) g AC cC vR (.slice (some ⟨gl, 0, none⟩) (le.set x.toNat y).length cL) cu ro (le.set x.toNat y) bu tr := by
  have hn : n = le.length := (Kd.R_reads' h.left).1
  subst hn
  rw [List.length_set]
  have hg : g ≠ gl := fun e => (h.left.1 gl rfl).1 e.symm
  exact ⟨blk_far h.1 (p := ⟨gl, x.toNat, none⟩) hg _, h.2.1, h.2.2.1, h.2.2.2.1, Kd.R_far (p := ⟨gl, x.toNat, none⟩) h.rolls (fun k hk e => hk.2 (by rw [e]; rfl)) _, Kd.R_putn h.left x y⟩
theorem spec_l02Try.StX.append {v1 : Value} {ro1 : List Int} (h : spec_l02Try.StX w0 W g AC cC vR vL cu ro le bu tr) (ho : Kd.R (Kd.int .i64) 2 W1 w0.heap.size (fun k => k ≠ g ∧ some k ≠ vL.ownBlock) v1 ro1) (hg : W.grownBy W1 vR.ownBlock) (hat : v1.ownBlock = vR.ownBlock ∨ ∃ b, v1.ownBlock = some b ∧ W.heap.size ≤ b) :
    spec_l02Try.StX w0 (W1.setCell ⟨g, 1, none⟩ v1) g AC cC v1 vL cu ro1 le bu tr :=
  ⟨blk_put (blk_grown h.1 hg (Kd.R_away h.rolls (fun k hk => hk.1))) 1 _ rfl, h.2.1, h.2.2.1, h.2.2.2.1, Kd.R_far (p := ⟨g, 1, none⟩) ho (fun k hk => hk.1) _, Kd.R_far (p := ⟨g, 1, none⟩) (Kd.R_after (ok := fun k => k ≠ g) h.left hg hat) (fun k hk => hk.1) _⟩
theorem spec_l02Try.StX.grown1 (h : spec_l02Try.StX w0 W g AC cC vR vL cu ro le bu tr) (hg : W.grownBy W1 vR.ownBlock) : W1.heap[g]? = some (.cells #[.slice AC cu.length cC, vR, vL, .int .i64 bu, .int .i64 tr] 52 (0, 0)) := blk_grown h.1 hg (Kd.R_away h.rolls (fun k hk => hk.1))
theorem spec_l02Try.StX.fresh (h : spec_l02Try.StX w0 W g AC cC vR vL cu ro le bu tr) : ∀ k, W.heap.size ≤ k → k ≠ g ∧ some k ≠ vL.ownBlock := fun k hk => ⟨fun e => by have := h.lt; omega, fun e => by have := Kd.R_lt h.left k e.symm; omega⟩
theorem spec_l02Try.StX.cut {AR : Option Addr} {n cR m : Nat} (h : spec_l02Try.StX w0 W g AC cC (.slice AR n cR) vL cu ro le bu tr) (hm : m ≤ ro.length) : spec_l02Try.StX w0 (W.setCell ⟨g, 1, none⟩ (.slice AR m cR)) g AC cC (.slice AR m cR) vL cu (ro.take m) le bu tr := by
  have hob : (Value.slice AR m cR).ownBlock = (Value.slice AR n cR).ownBlock := by cases AR <;> rfl
  exact ⟨blk_put h.1 1 _ rfl, h.2.1, h.2.2.1, h.2.2.2.1, Kd.R_far (p := ⟨g, 1, none⟩) (Kd.R_take h.rolls hm) (fun k hk => hk.1) _, Kd.R_far (p := ⟨g, 1, none⟩) (Kd.R_mono h.left (fun k hk => ⟨hk.1, by rw [hob]; exact hk.2⟩)) (fun k hk => hk.1) _⟩
end
mutual
def spec_l02Try.l0 : Nat → List Int → Int → Int → Int → List Int → List Int → Int → Int → Option (Int × List Int × List Int × Int)
  | 0, _, _, _, _, _, _, _, _ => none
  | k + 1, cu, bu, us, at_, ro, le, tr, x => if x ≤ us then (if x < (le.length : Int) then (if 0 ≤ x ∧ 0 ≤ at_ ∧ at_ < (cu.length : Int) then (if rd le x < rd cu at_ then spec_l02Try.l0 k cu bu us at_ ro le tr (wrap64 (x + 1)) else (if tr = bu then some (-1, ro, le, tr) else (if ro.length < 17592186044416 then
      (spec_l00Max.f us (wrap64 (x + 1))).bind fun u => (spec_l02Try.f k cu bu u (ro ++ [x]) (le.set x.toNat (wrap64 (rd le x - rd cu at_))) (wrap64 (tr + 1))).bind fun t =>
        (if t.1 = 0 then (if at_ ≤ (t.2.1.length : Int) ∧ x < (t.2.2.1.length : Int) then spec_l02Try.l0 k cu bu us at_ (t.2.1.take at_.toNat) (t.2.2.1.set x.toNat (wrap64 (rd t.2.2.1 x + rd cu at_))) t.2.2.2 (wrap64 (x + 1)) else none) else some (t.1, t.2.1, t.2.2.1, t.2.2.2))
      else none))) else none) else some (0, ro, le, tr)) else some (0, ro, le, tr)
def spec_l02Try.f : Nat → List Int → Int → Int → List Int → List Int → Int → Option (Int × List Int × List Int × Int)
  | 0, _, _, _, _, _, _ => none
  | k + 1, cu, bu, us, ro, le, tr => if (ro.length : Int) = (cu.length : Int) then some (1, ro, le, tr) else spec_l02Try.l0 k cu bu us (ro.length : Int) ro le tr 0
end
theorem spec_l02Try.mono_l : ∀ k, (∀ cu bu us ro le tr, LeO (spec_l02Try.f k cu bu us ro le tr) (spec_l02Try.f (k + 1) cu bu us ro le tr)) ∧ (∀ cu bu us at_ ro le tr x, LeO (spec_l02Try.l0 k cu bu us at_ ro le tr x) (spec_l02Try.l0 (k + 1) cu bu us at_ ro le tr x))
  | 0 => ⟨fun _ _ _ _ _ _ r h => by simp [spec_l02Try.f] at h, fun _ _ _ _ _ _ _ _ r h => by simp [spec_l02Try.l0] at h⟩
  | k + 1 => by
    obtain ⟨ihf, ih0⟩ := spec_l02Try.mono_l k
    refine ⟨?_, ?_⟩
    · intro cu bu us ro le tr
      unfold spec_l02Try.f
      exact LeO.ite (LeO.refl _) (ih0 _ _ _ _ _ _ _ _)
    · intro cu bu us at_ ro le tr x
      unfold spec_l02Try.l0
      exact LeO.ite (LeO.ite (LeO.ite (LeO.ite (ih0 _ _ _ _ _ _ _ _) (LeO.ite (LeO.refl _) (LeO.ite (LeO.bind (LeO.refl _) (fun _ => LeO.bind (ihf _ _ _ _ _ _) (fun _ => LeO.ite (LeO.ite (ih0 _ _ _ _ _ _ _ _) (LeO.none _)) (LeO.refl _)))) (LeO.none _)))) (LeO.none _)) (LeO.refl _)) (LeO.refl _)
theorem spec_l02Try.mono : ∀ cu bu us ro le tr k, LeO (spec_l02Try.f k cu bu us ro le tr) (spec_l02Try.f (k + 1) cu bu us ro le tr) := fun cu bu us ro le tr k => (spec_l02Try.mono_l k).1 cu bu us ro le tr
def spec_l02Try.T11 : Bool × List (List Nat × List Nat) := (true, [([], []), ([0], [0]), ([1], [1]), ([2], [2]), ([], []), ([3, 4], [3, 4]), ([5], [5]), ([], []), ([7], [7]), ([8], [8]), ([9], [9]), ([], []), ([10, 11], [10, 11]), ([12], [12]), ([6, 13], [6, 13]), ([3, 4, 0, 1, 2, 3, 4, 5, 6, 7, 8, 9, 10, 11, 12, 13, 14], [3, 4]), ([15, 14, 0, 1, 2, 3, 4, 5, 6, 7, 8, 9, 10, 11, 12, 13, 14], [14, 15])])
def spec_l02Try.B11 : List Nat := [0, 1, 3, 7, 0, 31, 63, 0, 128, 384, 896, 0, 3968, 8064, 16383, 32767, 65535]
theorem spec_l02Try.tab11 : rtab .any (opsOf Try.f35 11) = spec_l02Try.T11 := by kernel_rfl
theorem spec_l02Try.bits11 : waitsOk spec_l02Try.T11.2 spec_l02Try.B11 = true := by kernel_rfl
theorem spec_l02Try.tab17 : rtab .any (opsOf Try.f35 17) = spec_l02Try.T11 := by kernel_rfl
theorem spec_l02Try.bits17 : waitsOk spec_l02Try.T11.2 spec_l02Try.B11 = true := by kernel_rfl
set_option maxHeartbeats 16000000 in
set_option maxRecDepth 100000 in
theorem spec_l02Try.calls (w0 : World) (g : Nat) (cu : List Int) (bu : Int) (k : Nat) : ∀ (us : Int) (ro le : List Int) (tr : Int) (e1 : Int) (ro1 le1 : List Int) (tr1 : Int) (w : World), spec_l02Try.St w0 w g cu ro le bu tr → Below w0.heap.size w0 w → spec_l02Try.f k cu bu us ro le tr = some (e1, ro1, le1, tr1) →
    Calls Try.prog 35 #[.pointer (some ⟨g, 0, none⟩), .int .i64 us] w fun e w' => e = .returned (.int .i64 e1) ∧ spec_l02Try.St w0 w' g cu ro1 le1 bu tr1 ∧ Below w0.heap.size w0 w' := by
  induction k using Nat.strongRecOn with
  | _ k ih =>
  intro us ro le tr e1 ro1 le1 tr1 w hst hb0 h
  cases k with
  | zero => simp [spec_l02Try.f] at h
  | succ k =>
  have HB := Aside0.mk hb0
  have HST := Aside0.mk hst
  clear hst hb0
  simp only [spec_l02Try.f] at h
  obtain ⟨AC, cC, vR, vL, hX⟩ := HST.out
  have hr_ := Kd.R_slice hX.rolls
  obtain ⟨AR, cR, rfl⟩ := hr_
  have hc0 := spec_l02Try.StX.c0 hX
  have hc1 := spec_l02Try.StX.c1 hX
  have HX := Aside0.mk hX
  clear hX
  by_cases c1 : (ro.length : Int) = (cu.length : Int)
  · rw [if_pos c1] at h
    have c1b : ((ro.length : Int) == (cu.length : Int)) = true := beq_iff_eq.mpr c1
    have c1n : (ro.length == cu.length) = true := beq_iff_eq.mpr (by omega)
    clear c1
    simp only [Option.some.injEq, Prod.mk.injEq] at h
    obtain ⟨rfl, rfl, rfl, rfl⟩ := h
    go_enter Try.func35, Try.ntmps35
    go_wp2
    repeat (go_quiet (fail); try go_wp2)
    go_ret
    exact ⟨rfl, spec_l02Try.StX.st (by repeat (first | exact HX.out | apply spec_l02Try.StX.drewN | apply spec_l02Try.StX.drew)), by repeat (first | (with_reducible first | exact HB.out | apply below_alloc | apply pw_below_drewN | apply below_drew1) | exact HB.out)⟩
  · rw [if_neg c1] at h
    have c1b : ((ro.length : Int) == (cu.length : Int)) = false := beq_eq_false_iff_ne.mpr c1
    have c1n : (ro.length == cu.length) = false := beq_eq_false_iff_ne.mpr (by omega)
    clear c1
    have H' := Aside0.mk h
    clear h
    go_enter Try.func35, Try.ntmps35
    go_wp2
    repeat (go_quiet (fail); try go_wp2)
    go_loopg [6] k (fun kq v6 w' => ∃ (x : Int) (ro2 le2 : List Int) (tr2 : Int), v6 = .int .i64 x ∧ Aside0 (spec_l02Try.l0 kq cu bu us (ro.length : Int) ro2 le2 tr2 x = some (e1, ro1, le1, tr1)) ∧ Aside0 (kq ≤ k) ∧ Aside0 (spec_l02Try.St w0 w' g cu ro2 le2 bu tr2) ∧ Aside0 (Below w0.heap.size w0 w'))
    case atStart => exact ⟨0, ro, le, tr, rfl, H', ⟨Nat.le_refl _⟩, ⟨spec_l02Try.StX.st (by repeat (first | exact HX.out | apply spec_l02Try.StX.drewN | apply spec_l02Try.StX.drew))⟩, ⟨by repeat (first | (with_reducible first | exact HB.out | apply below_alloc | apply pw_below_drewN | apply below_drew1) | exact HB.out)⟩⟩
    case round =>
      clear H' HX HB HST hc0 hc1
      obtain ⟨x, ro2, le2, tr2, rfl, HA, HK1, HST, HB⟩ := hrel
      cases gk with
      | zero => exact absurd HA.out (by simp [spec_l02Try.l0])
      | succ k1 =>
        have H := HA.out
        clear HA
        simp only [spec_l02Try.l0] at H
        obtain ⟨AC, cC, vR, vL, hX⟩ := HST.out
        obtain ⟨AR, cR, rfl⟩ := Kd.R_slice hX.rolls
        obtain ⟨AL, cL, rfl⟩ := Kd.R_slice hX.left
        have HSX := Aside0.mk hX
        have hc2 := spec_l02Try.StX.c2 hX
        by_cases d1 : x ≤ us
        · rw [if_pos d1] at H
          have d1b : decide (x ≤ us) = true := decide_eq_true d1
          clear d1
          by_cases d2 : x < (le2.length : Int)
          · rw [if_pos d2] at H
            have d2b : decide (x < (le2.length : Int)) = true := decide_eq_true d2
            by_cases d3 : 0 ≤ x ∧ 0 ≤ (ro.length : Int) ∧ (ro.length : Int) < (cu.length : Int)
            · rw [if_pos d3] at H
              have px0 : 0 ≤ x := d3.1
              have qx0 : x < (le2.length : Int) := d2
              have pa0 : 0 ≤ (ro.length : Int) ∧ (ro.length : Int) < (cu.length : Int) := d3.2
              have pxb : (0 ≤ x) = True := eq_true d3.1
              have qxb : (x < (le2.length : Int)) = True := eq_true d2
              have pab : (0 ≤ (ro.length : Int)) = True := eq_true d3.2.1
              have qab : ((ro.length : Int) < (cu.length : Int)) = True := eq_true d3.2.2
              have qan : (ro.length < cu.length) = True := eq_true (by have := d3.2.2; omega)
              have hlp : 0 < le2.length := by omega
              obtain ⟨gl, cL', el_, _, _, _⟩ := Kd.R_form hX.left hlp
              obtain ⟨rfl, rfl⟩ : AL = some ⟨gl, 0, none⟩ ∧ cL = cL' := by injection el_ with a_ b_ c_; exact ⟨a_, c_⟩
              clear el_
              obtain ⟨adC, rfl⟩ := spec_l02Try.StX.some_cut hX pa0
              clear d2 d3 hlp
              have hc0 := spec_l02Try.StX.c0 hX
              have hc3 := spec_l02Try.StX.c3 hX
              have hc4 := spec_l02Try.StX.c4 hX
              have hf4 := spec_l02Try.StX.fr hX 4
              have hxl := spec_l02Try.StX.at_left hX x px0 qx0
              have hxc : wr.cell? (adC.add ro.length) = some (.int .i64 (rd cu (ro.length : Int))) := spec_l02Try.StX.at_cut hX HB.out pa0
              clear hX
              by_cases d5 : rd le2 x < rd cu (ro.length : Int)
              · rw [if_pos d5] at H
                have d5b : decide (rd le2 x < rd cu (ro.length : Int)) = true := decide_eq_true d5
                clear d5
                have H' := Aside0.mk H
                clear H
                go_wp2
                repeat (go_quiet (fail); try go_wp2)
                go_roundg k1
                case measure => have := HK1.out; omega
                case rel => exact ⟨wrap64 (x + 1), ro2, le2, tr2, rfl, H', ⟨by have := HK1.out; omega⟩, ⟨spec_l02Try.StX.st (by repeat (first | exact HSX.out | apply spec_l02Try.StX.drewN | apply spec_l02Try.StX.drew))⟩, ⟨by repeat (first | (with_reducible first | exact HB.out | apply below_alloc | apply pw_below_drewN | apply below_drew1) | exact HB.out)⟩⟩
              · rw [if_neg d5] at H
                have d5b : decide (rd le2 x < rd cu (ro.length : Int)) = false := decide_eq_false d5
                clear d5
                by_cases d6 : tr2 = bu
                · rw [if_pos d6] at H
                  have d6b : (tr2 == bu) = true := beq_iff_eq.mpr d6
                  clear d6
                  simp only [Option.some.injEq, Prod.mk.injEq] at H
                  obtain ⟨rfl, rfl, rfl, rfl⟩ := H
                  go_wp2
                  repeat (go_quiet (fail); try go_wp2)
                  go_ret
                  exact ⟨rfl, spec_l02Try.StX.st (by repeat (first | exact HSX.out | apply spec_l02Try.StX.drewN | apply spec_l02Try.StX.drew)), by repeat (first | (with_reducible first | exact HB.out | apply below_alloc | apply pw_below_drewN | apply below_drew1) | exact HB.out)⟩
                · rw [if_neg d6] at H
                  have d6b : (tr2 == bu) = false := beq_eq_false_iff_ne.mpr d6
                  clear d6
                  by_cases d7 : ro2.length < 17592186044416
                  · rw [if_pos d7] at H
                    have LM7 := Aside0.mk d7
                    clear d7
                    obtain ⟨u, hu_, H⟩ := Option.bind_eq_some_iff.mp H
                    have AU := Aside0.mk hu_
                    clear hu_
                    obtain ⟨⟨t1, ro3, le3, tr3⟩, hr_, H⟩ := Option.bind_eq_some_iff.mp H
                    have AR3 := Aside0.mk hr_
                    clear hr_
                    replace H : (if t1 = 0 then (if (ro.length : Int) ≤ (ro3.length : Int) ∧ x < (le3.length : Int) then spec_l02Try.l0 k1 cu bu us (ro.length : Int) (ro3.take ro.length) (le3.set x.toNat (wrap64 (rd le3 x + rd cu (ro.length : Int)))) tr3 (wrap64 (x + 1)) else none) else some (t1, ro3, le3, tr3)) = some (e1, ro1, le1, tr1) := H
                    by_cases d8 : t1 = 0
                    · rw [if_pos d8] at H
                      subst d8
                      by_cases d9 : (ro.length : Int) ≤ (ro3.length : Int) ∧ x < (le3.length : Int)
                      · rw [if_pos d9] at H
                        have D9 := Aside0.mk d9
                        have H' := Aside0.mk H
                        clear H d9
                        go_wp2_with (first | ((with_reducible refine gate_store (t := 2) (p := 64) rfl ?_); (try (rw [drewN_self wr]; generalize hq_ : World.drewN wr _ = wr; have n0_ := Aside0.mk (spec_l02Try.StX.at_ hq_ HSX.out); have n1_ := Aside0.mk (below_at hq_ HB.out); clear hq_ HSX HB; have HSX := n0_; have HB := n1_; clear n0_ n1_)); have hcq_ := spec_l02Try.StX.c4 HSX.out; have hfq_ := spec_l02Try.StX.fr HSX.out 4; refine store_event (t := 2) (p := 64) (v := ?vo_w64) (w1 := (wr.setCell ⟨g, 4, none⟩ (.int .i64 (wrap64 (tr2 + 1))))) ?hgs ?hos ?hns ?hrs ?_; (case hos => rfl); (case hgs => rfl); (case hns => rfl); (case hrs => first | (go_simp; done) | (go_simp; rfl)); intro w2 hw_; have n0_ := Aside0.mk (show spec_l02Try.StX w0 w2 g (some adC) cC (.slice AR ro2.length cR) (.slice (some ⟨gl, 0, none⟩) le2.length cL) cu ro2 le2 bu (wrap64 (tr2 + 1)) from by rw [hw_]; exact spec_l02Try.StX.setTr HSX.out _); have n1_ := Aside0.mk (show Below w0.heap.size w0 w2 from by rw [hw_]; exact below_set HB.out (spec_l02Try.StX.ge HSX.out)); clear HSX HB hw_ hcq_ hfq_; have HSX := n0_; have HB := n1_; clear n0_ n1_; have he0 := spec_l02Try.StX.c0 HSX.out; have he2 := spec_l02Try.StX.c2 HSX.out))
                        repeat (go_quiet (fail); try go_wp2_with (first | ((with_reducible refine gate_store (t := 2) (p := 64) rfl ?_); (try (rw [drewN_self wr]; generalize hq_ : World.drewN wr _ = wr; have n0_ := Aside0.mk (spec_l02Try.StX.at_ hq_ HSX.out); have n1_ := Aside0.mk (below_at hq_ HB.out); clear hq_ HSX HB; have HSX := n0_; have HB := n1_; clear n0_ n1_)); have hcq_ := spec_l02Try.StX.c4 HSX.out; have hfq_ := spec_l02Try.StX.fr HSX.out 4; refine store_event (t := 2) (p := 64) (v := ?vo_w64) (w1 := (wr.setCell ⟨g, 4, none⟩ (.int .i64 (wrap64 (tr2 + 1))))) ?hgs ?hos ?hns ?hrs ?_; (case hos => rfl); (case hgs => rfl); (case hns => rfl); (case hrs => first | (go_simp; done) | (go_simp; rfl)); intro w2 hw_; have n0_ := Aside0.mk (show spec_l02Try.StX w0 w2 g (some adC) cC (.slice AR ro2.length cR) (.slice (some ⟨gl, 0, none⟩) le2.length cL) cu ro2 le2 bu (wrap64 (tr2 + 1)) from by rw [hw_]; exact spec_l02Try.StX.setTr HSX.out _); have n1_ := Aside0.mk (show Below w0.heap.size w0 w2 from by rw [hw_]; exact below_set HB.out (spec_l02Try.StX.ge HSX.out)); clear HSX HB hw_ hcq_ hfq_; have HSX := n0_; have HB := n1_; clear n0_ n1_; have he0 := spec_l02Try.StX.c0 HSX.out; have he2 := spec_l02Try.StX.c2 HSX.out)))
                        have n0_ := Aside0.mk (spec_l02Try.StX.drew HSX.out)
                        have n1_ := Aside0.mk (below_drew1 HB.out)
                        clear HSX HB
                        have HSX := n0_
                        have HB := n1_
                        clear n0_ n1_
                        have hw1_ := spec_l02Try.StX.c2 HSX.out
                        have hw2_ := spec_l02Try.StX.at_left HSX.out x px0 qx0
                        have hw3_ := spec_l02Try.StX.c0 HSX.out
                        have hw4_ := spec_l02Try.StX.at_cut HSX.out HB.out pa0
                        have hw5_ := spec_l02Try.StX.frz HSX.out x px0 qx0
                        refine start_ (n := 17) (S := fun w' => w'.cell? ⟨g, 2, none⟩ = some (.slice (some ⟨gl, 0, none⟩) le2.length cL) ∧ w'.cell? ⟨gl, x.toNat, none⟩ = some (.int .i64 (rd le2 x)) ∧ w'.cell? ⟨g, 0, none⟩ = some (.slice (some adC) cu.length cC) ∧ w'.cell? (adC.add ro.length) = some (.int .i64 (rd cu (ro.length : Int)))) (ds := [16]) #[false, false, false, false, false, false, false, false, false, false, false, false, false, false, false, false, false] (by kernel_rfl) rfl rfl ⟨hw1_, hw2_, hw3_, hw4_⟩ (fun hHeld => ?_); refine with_tabW spec_l02Try.tab11 spec_l02Try.bits11 (fun HT_ HW_ => ?_)
                        generalize World.drew _ = w25 at HSX HB hw1_ hw2_ hw3_ hw4_ hw5_ hHeld ⊢
                        refine pure_ (i := 0) (N := some 65) (v := ?_) (a' := ?_) #[true, false, false, false, false, false, false, false, false, false, false, false, false, false, false, false, false] rfl rfl (any_of HT_.out (by kernel_rfl)) (fun _ _ _ h => h) (Or.inl ⟨by rfl, ?_⟩) ?_ ?_
                        rotate_left
                        · intro w'
                          go_simp
                          with_reducible rfl
                        rotate_left
                        · simp only [Act.put, List.setIfInBounds_toArray, List.set_cons_zero, List.set_cons_succ, i64_w, i32_w]
                          rfl
                        refine pure_ (i := 1) (N := some 66) (v := ?_) (a' := ?_) #[true, true, false, false, false, false, false, false, false, false, false, false, false, false, false, false, false] rfl rfl (any_of HT_.out (by kernel_rfl)) (fun _ _ _ h => h) (Or.inl ⟨by rfl, ?_⟩) ?_ ?_
                        rotate_left
                        · intro w'
                          go_simp
                          with_reducible rfl
                        rotate_left
                        · simp only [Act.put, List.setIfInBounds_toArray, List.set_cons_zero, List.set_cons_succ, i64_w, i32_w]
                          rfl
                        refine pure_ (i := 2) (N := some 67) (v := ?_) (a' := ?_) #[true, true, true, false, false, false, false, false, false, false, false, false, false, false, false, false, false] rfl rfl (any_of HT_.out (by kernel_rfl)) (fun _ _ _ h => h) (Or.inl ⟨by rfl, ?_⟩) ?_ ?_
                        rotate_left
                        · intro w'
                          go_simp
                          with_reducible rfl
                        rotate_left
                        · simp only [Act.put, List.setIfInBounds_toArray, List.set_cons_zero, List.set_cons_succ, i64_w, i32_w]
                          rfl
                        refine pure_ (i := 4) (N := some 69) (v := ?_) (a' := ?_) #[true, true, true, false, true, false, false, false, false, false, false, false, false, false, false, false, false] rfl rfl (any_of HT_.out (by kernel_rfl)) (fun _ _ _ h => h) (Or.inl ⟨by rfl, ?_⟩) ?_ ?_
                        rotate_left
                        · intro w'
                          go_simp
                          with_reducible rfl
                        rotate_left
                        · simp only [Act.put, List.setIfInBounds_toArray, List.set_cons_zero, List.set_cons_succ, i64_w, i32_w]
                          rfl
                        refine pure_ (i := 7) (N := some 72) (v := ?_) (a' := ?_) #[true, true, true, false, true, false, false, true, false, false, false, false, false, false, false, false, false] rfl rfl (any_of HT_.out (by kernel_rfl)) (fun _ _ _ h => h) (Or.inl ⟨by rfl, ?_⟩) ?_ ?_
                        rotate_left
                        · intro w'
                          go_simp
                          with_reducible rfl
                        rotate_left
                        · simp only [Act.put, List.setIfInBounds_toArray, List.set_cons_zero, List.set_cons_succ, i64_w, i32_w]
                          rfl
                        refine pure_ (i := 8) (N := some 73) (v := ?_) (a' := ?_) #[true, true, true, false, true, false, false, true, true, false, false, false, false, false, false, false, false] rfl rfl (any_of HT_.out (by kernel_rfl)) (fun _ _ _ h => h) (Or.inl ⟨by rfl, ?_⟩) ?_ ?_
                        rotate_left
                        · intro w'
                          go_simp
                          with_reducible rfl
                        rotate_left
                        · simp only [Act.put, List.setIfInBounds_toArray, List.set_cons_zero, List.set_cons_succ, i64_w, i32_w]
                          rfl
                        refine pure_ (i := 9) (N := some 74) (v := ?_) (a' := ?_) #[true, true, true, false, true, false, false, true, true, true, false, false, false, false, false, false, false] rfl rfl (any_of HT_.out (by kernel_rfl)) (fun _ _ _ h => h) (Or.inl ⟨by rfl, ?_⟩) ?_ ?_
                        rotate_left
                        · intro w'
                          go_simp
                          with_reducible rfl
                        rotate_left
                        · simp only [Act.put, List.setIfInBounds_toArray, List.set_cons_zero, List.set_cons_succ, i64_w, i32_w]
                          rfl
                        refine pure_ (i := 11) (N := some 76) (v := ?_) (a' := ?_) #[true, true, true, false, true, false, false, true, true, true, false, true, false, false, false, false, false] rfl rfl (any_of HT_.out (by kernel_rfl)) (fun _ _ _ h => h) (Or.inl ⟨by rfl, ?_⟩) ?_ ?_
                        rotate_left
                        · intro w'
                          go_simp
                          with_reducible rfl
                        rotate_left
                        · simp only [Act.put, List.setIfInBounds_toArray, List.set_cons_zero, List.set_cons_succ, i64_w, i32_w]
                          rfl
                        refine take_ (i := 3) (N := some 68) (v := ?_) (a' := ?_) #[true, true, true, true, true, false, false, true, true, true, false, true, false, false, false, false, false] rfl rfl (take_ofW HT_.out HW_.out (by kernel_rfl)) (fun _ _ _ h => h) (Or.inl ⟨by rfl, ?_⟩) hHeld ?_ ?_
                        rotate_left
                        · rintro w' ⟨s0, s1, s2, s3⟩
                          go_simp
                          with_reducible rfl
                        rotate_left
                        · simp only [Act.put, List.setIfInBounds_toArray, List.set_cons_zero, List.set_cons_succ, i64_w, i32_w]
                          rfl
                        refine take_ (i := 10) (N := some 75) (v := ?_) (a' := ?_) #[true, true, true, true, true, false, false, true, true, true, true, true, false, false, false, false, false] rfl rfl (take_ofW HT_.out HW_.out (by kernel_rfl)) (fun _ _ _ h => h) (Or.inl ⟨by rfl, ?_⟩) hHeld ?_ ?_
                        rotate_left
                        · rintro w' ⟨s0, s1, s2, s3⟩
                          go_simp
                          with_reducible rfl
                        rotate_left
                        · simp only [Act.put, List.setIfInBounds_toArray, List.set_cons_zero, List.set_cons_succ, i64_w, i32_w]
                          rfl
                        refine pure_ (i := 5) (N := some 70) (v := ?_) (a' := ?_) #[true, true, true, true, true, true, false, true, true, true, true, true, false, false, false, false, false] rfl rfl (any_of HT_.out (by kernel_rfl)) (fun _ _ _ h => h) (Or.inl ⟨by rfl, ?_⟩) ?_ ?_
                        rotate_left
                        · intro w'
                          go_simp
                          with_reducible rfl
                        rotate_left
                        · simp only [Act.put, List.setIfInBounds_toArray, List.set_cons_zero, List.set_cons_succ, i64_w, i32_w]
                          rfl
                        refine pure_ (i := 12) (N := some 77) (v := ?_) (a' := ?_) #[true, true, true, true, true, true, false, true, true, true, true, true, true, false, false, false, false] rfl rfl (any_of HT_.out (by kernel_rfl)) (fun _ _ _ h => h) (Or.inl ⟨by rfl, ?_⟩) ?_ ?_
                        rotate_left
                        · intro w'
                          go_simp
                          with_reducible rfl
                        rotate_left
                        · simp only [Act.put, List.setIfInBounds_toArray, List.set_cons_zero, List.set_cons_succ, i64_w, i32_w]
                          rfl
                        refine take_ (i := 6) (N := some 71) (v := ?_) (a' := ?_) #[true, true, true, true, true, true, true, true, true, true, true, true, true, false, false, false, false] rfl rfl (take_ofW HT_.out HW_.out (by kernel_rfl)) (fun _ _ _ h => h) (Or.inl ⟨by rfl, ?_⟩) hHeld ?_ ?_
                        rotate_left
                        · rintro w' ⟨s0, s1, s2, s3⟩
                          go_simp
                          with_reducible rfl
                        rotate_left
                        · simp only [Act.put, List.setIfInBounds_toArray, List.set_cons_zero, List.set_cons_succ, i64_w, i32_w]
                          rfl
                        refine take_ (i := 13) (N := some 78) (v := ?_) (a' := ?_) #[true, true, true, true, true, true, true, true, true, true, true, true, true, true, false, false, false] rfl rfl (take_ofW HT_.out HW_.out (by kernel_rfl)) (fun _ _ _ h => h) (Or.inl ⟨by rfl, ?_⟩) hHeld ?_ ?_
                        rotate_left
                        · rintro w' ⟨s0, s1, s2, s3⟩
                          go_simp
                          with_reducible rfl
                        rotate_left
                        · simp only [Act.put, List.setIfInBounds_toArray, List.set_cons_zero, List.set_cons_succ, i64_w, i32_w]
                          rfl
                        refine pure_ (i := 14) (N := some 79) (v := ?_) (a' := ?_) #[true, true, true, true, true, true, true, true, true, true, true, true, true, true, true, false, false] rfl rfl (any_of HT_.out (by kernel_rfl)) (fun _ _ _ h => h) (Or.inl ⟨by rfl, ?_⟩) ?_ ?_
                        rotate_left
                        · intro w'
                          go_simp
                          with_reducible rfl
                        rotate_left
                        · simp only [Act.put, List.setIfInBounds_toArray, List.set_cons_zero, List.set_cons_succ, i64_w, i32_w]
                          rfl
                        refine pure_ (i := 15) (N := some 80) (v := ?_) (a' := ?_) #[true, true, true, true, true, true, true, true, true, true, true, true, true, true, true, true, false] rfl rfl (any_of HT_.out (by kernel_rfl)) (fun _ _ _ h => h) (Or.inl ⟨by rfl, ?_⟩) ?_ ?_
                        rotate_left
                        · intro w'
                          go_simp
                          with_reducible rfl
                        rotate_left
                        · simp only [Act.put, List.setIfInBounds_toArray, List.set_cons_zero, List.set_cons_succ, i64_w, i32_w]
                          rfl
                        refine last_ (i := 16) (N := none) #[true, true, true, true, true, true, true, true, true, true, true, true, true, true, true, true, true] rfl rfl (one_of HT_.out (by kernel_rfl)) (by decide) (fun K hK => ?_)
                        obtain ⟨w26, hw26_⟩ : ∃ w_, w_ = w25.setCell ⟨gl, x.toNat, none⟩ (.int .i64 (wrap64 (rd le2 x - rd cu (ro.length : Int)))) := ⟨_, rfl⟩
                        refine skip_ (w1 := w26) (by rfl) rfl ?_ ?_
                        · rw [hw26_]
                          first | (go_simp; done) | (go_simp; rfl)
                        refine hK.out _ _ ?_
                        clear hK K
                        refine done_ (done_of HT_.out (by kernel_rfl)) ?_
                        have n0_ := Aside0.mk (show spec_l02Try.StX w0 w26 g (some adC) cC (.slice AR ro2.length cR) (.slice (some ⟨gl, 0, none⟩) (le2.set x.toNat (wrap64 (rd le2 x - rd cu (ro.length : Int)))).length cL) cu ro2 (le2.set x.toNat (wrap64 (rd le2 x - rd cu (ro.length : Int)))) bu (wrap64 (tr2 + 1)) from by rw [hw26_]; exact spec_l02Try.StX.setLe HSX.out x _)
                        have n1_ := Aside0.mk (show Below w0.heap.size w0 w26 from by rw [hw26_]; exact below_set HB.out (spec_l02Try.StX.gel HSX.out))
                        clear HSX HB hw1_ hw2_ hw3_ hw4_ hw5_ hw26_ hHeld
                        have HSX := n0_
                        have HB := n1_
                        clear n0_ n1_
                        have hg1 := spec_l02Try.StX.c1 HSX.out
                        have hgf := spec_l02Try.StX.fr HSX.out 1
                        go_wp2_with (first | ((with_reducible refine gate_builtin (b := .append) (xs := #[.tmp 85, .tmp 87]) rfl ?_); at_builtin; refine Kd.R_append (Kd.int .i64) (w0 := w0) w0.heap.size rfl (.tmp 85) (.tmp 87) 22 2 (.int .i64 0) 8 rfl Try.underlying22 info2 rfl (by decide) (by omega) (.slice AR ro2.length cR) ro2 x [.int .i64 x] (fun k => k ≠ g ∧ some k ≠ (.slice (some ⟨gl, 0, none⟩) (le2.set x.toNat (wrap64 (rd le2 x - rd cu (ro.length : Int)))).length cL : Value).ownBlock) (fun _ => False) rfl (by first | (go_simp; done) | (go_simp; rfl)) ?aP (fun _ hk => hk.elim) ?aF ?aO ?aB ?aS ?aL ?_; (case aP => exact rfl); (case aF => exact spec_l02Try.StX.fresh HSX.out); (case aO => exact spec_l02Try.StX.rolls HSX.out); (case aB => exact HB.out); (case aS => exact HB.out.size); (case aL => have := LM7.out; omega); intro v3 w3 ho hb hg hat; have HG3 := Aside0.mk (spec_l02Try.StX.grown1 HSX.out hg); have hcr_ : w3.cell? ⟨g, 1, none⟩ = some (.slice AR ro2.length cR) := (blk_cell HG3.out 1).trans rfl; have hfr_ := blk_frozen HG3.out 1; obtain ⟨A3, c3, e3⟩ := Kd.R_slice ho; subst e3; have n0_ := Aside0.mk (spec_l02Try.StX.append HSX.out ho hg hat); have n1_ := Aside0.mk hb; clear HB HSX ho hb hg hat; have HSX := n0_; have HB := n1_; clear n0_ n1_) | ((with_reducible refine gate_store (t := 22) (p := 90) rfl ?_); refine store_event (t := 22) (p := 90) (v := ?vo_w90) (w1 := (w3.setCell ⟨g, 1, none⟩ (.slice A3 (ro2 ++ [x]).length c3))) ?hgs ?hos ?hns ?hrs ?_; (case hos => rfl); (case hgs => rfl); (case hns => rfl); (case hrs => first | (go_simp; done) | (go_simp; rfl)); intro w4 hw_; have n0_ := Aside0.mk (show spec_l02Try.StX w0 w4 g (some adC) cC (.slice A3 (ro2 ++ [x]).length c3) (.slice (some ⟨gl, 0, none⟩) (le2.set x.toNat (wrap64 (rd le2 x - rd cu (ro.length : Int)))).length cL) cu (ro2 ++ [x]) (le2.set x.toNat (wrap64 (rd le2 x - rd cu (ro.length : Int)))) bu (wrap64 (tr2 + 1)) from by rw [hw_]; exact HSX.out); have n1_ := Aside0.mk (show Below w0.heap.size w0 w4 from by rw [hw_]; exact below_set HB.out (spec_l02Try.StX.ge HSX.out)); clear HSX HB hw_ hcr_ hfr_ HG3; have HSX := n0_; have HB := n1_; clear n0_ n1_) | (go_at_call 56; (refine (spec_l00Max.calls us (wrap64 (x + 1)) u _ AU.out).mono ?_); rintro e w5 ⟨rfl, hd_⟩; have hb_ := hd_.below; have n0_ := Aside0.mk (spec_l02Try.StX.below HSX.out hb_); have n1_ := Aside0.mk (below_then HB.out HB.out.size hb_); clear HSX HB hd_ hb_; have HSX := n0_; have HB := n1_; clear n0_ n1_) | (go_at_call 35; (refine (ih k1 (by have := HK1.out; omega) u (ro2 ++ [x]) (le2.set x.toNat (wrap64 (rd le2 x - rd cu (ro.length : Int)))) (wrap64 (tr2 + 1)) 0 ro3 le3 tr3 _ (spec_l02Try.StX.st (by repeat (first | exact HSX.out | apply spec_l02Try.StX.drewN | apply spec_l02Try.StX.drew))) (by repeat (first | (with_reducible first | exact HB.out | apply below_alloc | apply pw_below_drewN | apply below_drew1) | exact HB.out)) AR3.out).mono ?_); rintro e w6 ⟨rfl, hs_, hb_⟩; have HS6 := Aside0.mk hs_; have n1_ := Aside0.mk hb_; clear HSX HB hs_ hb_; have HB := n1_; clear n1_; obtain ⟨AC6, cC6, vR6, vL6, hX6⟩ := HS6.out; obtain ⟨AR6, cR6, e6_⟩ := Kd.R_slice hX6.rolls; subst e6_; obtain ⟨AL6, cL6, e7_⟩ := Kd.R_slice hX6.left; subst e7_; have HX6 := Aside0.mk hX6; clear hX6; have hs1_ := spec_l02Try.StX.c1 HX6.out; have hsf_ := spec_l02Try.StX.fr HX6.out 1; have hcap_ : (ro.length ≤ cR6) = True := eq_true (Nat.le_trans (by have := D9.out.1; omega) (Kd.R_reads' (spec_l02Try.StX.rolls HX6.out)).2.1); have hcap2_ : ((ro.length : Int) ≤ (cR6 : Int)) = True := eq_true (Int.ofNat_le.2 (of_eq_true hcap_))) | ((with_reducible refine gate_store (t := 22) (p := 108) rfl ?_); refine store_event (t := 22) (p := 108) (v := ?vo_w108) (w1 := (w6.setCell ⟨g, 1, none⟩ (.slice AR6 ro.length cR6))) ?hgs ?hos ?hns ?hrs ?_; (case hos => rfl); (case hgs => rfl); (case hns => rfl); (case hrs => first | (go_simp; done) | (go_simp; rfl)); intro w7 hw_; have n0_ := Aside0.mk (show spec_l02Try.StX w0 w7 g AC6 cC6 (.slice AR6 ro.length cR6) (.slice AL6 le3.length cL6) cu (ro3.take ro.length) le3 bu tr3 from by rw [hw_]; exact spec_l02Try.StX.cut HX6.out (by have := D9.out; omega)); have n1_ := Aside0.mk (show Below w0.heap.size w0 w7 from by rw [hw_]; exact below_set HB.out (spec_l02Try.StX.ge HX6.out)); clear HX6 HB hw_; have HX6 := n0_; have HB := n1_; clear n0_ n1_ hs1_ hsf_))
                        repeat (go_quiet (fail); try go_wp2_with (first | ((with_reducible refine gate_builtin (b := .append) (xs := #[.tmp 85, .tmp 87]) rfl ?_); at_builtin; refine Kd.R_append (Kd.int .i64) (w0 := w0) w0.heap.size rfl (.tmp 85) (.tmp 87) 22 2 (.int .i64 0) 8 rfl Try.underlying22 info2 rfl (by decide) (by omega) (.slice AR ro2.length cR) ro2 x [.int .i64 x] (fun k => k ≠ g ∧ some k ≠ (.slice (some ⟨gl, 0, none⟩) (le2.set x.toNat (wrap64 (rd le2 x - rd cu (ro.length : Int)))).length cL : Value).ownBlock) (fun _ => False) rfl (by first | (go_simp; done) | (go_simp; rfl)) ?aP (fun _ hk => hk.elim) ?aF ?aO ?aB ?aS ?aL ?_; (case aP => exact rfl); (case aF => exact spec_l02Try.StX.fresh HSX.out); (case aO => exact spec_l02Try.StX.rolls HSX.out); (case aB => exact HB.out); (case aS => exact HB.out.size); (case aL => have := LM7.out; omega); intro v3 w3 ho hb hg hat; have HG3 := Aside0.mk (spec_l02Try.StX.grown1 HSX.out hg); have hcr_ : w3.cell? ⟨g, 1, none⟩ = some (.slice AR ro2.length cR) := (blk_cell HG3.out 1).trans rfl; have hfr_ := blk_frozen HG3.out 1; obtain ⟨A3, c3, e3⟩ := Kd.R_slice ho; subst e3; have n0_ := Aside0.mk (spec_l02Try.StX.append HSX.out ho hg hat); have n1_ := Aside0.mk hb; clear HB HSX ho hb hg hat; have HSX := n0_; have HB := n1_; clear n0_ n1_) | ((with_reducible refine gate_store (t := 22) (p := 90) rfl ?_); refine store_event (t := 22) (p := 90) (v := ?vo_w90) (w1 := (w3.setCell ⟨g, 1, none⟩ (.slice A3 (ro2 ++ [x]).length c3))) ?hgs ?hos ?hns ?hrs ?_; (case hos => rfl); (case hgs => rfl); (case hns => rfl); (case hrs => first | (go_simp; done) | (go_simp; rfl)); intro w4 hw_; have n0_ := Aside0.mk (show spec_l02Try.StX w0 w4 g (some adC) cC (.slice A3 (ro2 ++ [x]).length c3) (.slice (some ⟨gl, 0, none⟩) (le2.set x.toNat (wrap64 (rd le2 x - rd cu (ro.length : Int)))).length cL) cu (ro2 ++ [x]) (le2.set x.toNat (wrap64 (rd le2 x - rd cu (ro.length : Int)))) bu (wrap64 (tr2 + 1)) from by rw [hw_]; exact HSX.out); have n1_ := Aside0.mk (show Below w0.heap.size w0 w4 from by rw [hw_]; exact below_set HB.out (spec_l02Try.StX.ge HSX.out)); clear HSX HB hw_ hcr_ hfr_ HG3; have HSX := n0_; have HB := n1_; clear n0_ n1_) | (go_at_call 56; (refine (spec_l00Max.calls us (wrap64 (x + 1)) u _ AU.out).mono ?_); rintro e w5 ⟨rfl, hd_⟩; have hb_ := hd_.below; have n0_ := Aside0.mk (spec_l02Try.StX.below HSX.out hb_); have n1_ := Aside0.mk (below_then HB.out HB.out.size hb_); clear HSX HB hd_ hb_; have HSX := n0_; have HB := n1_; clear n0_ n1_) | (go_at_call 35; (refine (ih k1 (by have := HK1.out; omega) u (ro2 ++ [x]) (le2.set x.toNat (wrap64 (rd le2 x - rd cu (ro.length : Int)))) (wrap64 (tr2 + 1)) 0 ro3 le3 tr3 _ (spec_l02Try.StX.st (by repeat (first | exact HSX.out | apply spec_l02Try.StX.drewN | apply spec_l02Try.StX.drew))) (by repeat (first | (with_reducible first | exact HB.out | apply below_alloc | apply pw_below_drewN | apply below_drew1) | exact HB.out)) AR3.out).mono ?_); rintro e w6 ⟨rfl, hs_, hb_⟩; have HS6 := Aside0.mk hs_; have n1_ := Aside0.mk hb_; clear HSX HB hs_ hb_; have HB := n1_; clear n1_; obtain ⟨AC6, cC6, vR6, vL6, hX6⟩ := HS6.out; obtain ⟨AR6, cR6, e6_⟩ := Kd.R_slice hX6.rolls; subst e6_; obtain ⟨AL6, cL6, e7_⟩ := Kd.R_slice hX6.left; subst e7_; have HX6 := Aside0.mk hX6; clear hX6; have hs1_ := spec_l02Try.StX.c1 HX6.out; have hsf_ := spec_l02Try.StX.fr HX6.out 1; have hcap_ : (ro.length ≤ cR6) = True := eq_true (Nat.le_trans (by have := D9.out.1; omega) (Kd.R_reads' (spec_l02Try.StX.rolls HX6.out)).2.1); have hcap2_ : ((ro.length : Int) ≤ (cR6 : Int)) = True := eq_true (Int.ofNat_le.2 (of_eq_true hcap_))) | ((with_reducible refine gate_store (t := 22) (p := 108) rfl ?_); refine store_event (t := 22) (p := 108) (v := ?vo_w108) (w1 := (w6.setCell ⟨g, 1, none⟩ (.slice AR6 ro.length cR6))) ?hgs ?hos ?hns ?hrs ?_; (case hos => rfl); (case hgs => rfl); (case hns => rfl); (case hrs => first | (go_simp; done) | (go_simp; rfl)); intro w7 hw_; have n0_ := Aside0.mk (show spec_l02Try.StX w0 w7 g AC6 cC6 (.slice AR6 ro.length cR6) (.slice AL6 le3.length cL6) cu (ro3.take ro.length) le3 bu tr3 from by rw [hw_]; exact spec_l02Try.StX.cut HX6.out (by have := D9.out; omega)); have n1_ := Aside0.mk (show Below w0.heap.size w0 w7 from by rw [hw_]; exact below_set HB.out (spec_l02Try.StX.ge HX6.out)); clear HX6 HB hw_; have HX6 := n0_; have HB := n1_; clear n0_ n1_ hs1_ hsf_)))
                        obtain ⟨gl6, cL6', el_, _, _, _⟩ := Kd.R_form (spec_l02Try.StX.left HX6.out) (by have := D9.out; omega)
                        obtain ⟨rfl, rfl⟩ : AL6 = some ⟨gl6, 0, none⟩ ∧ cL6 = cL6' := by injection el_ with a_ b_ c_; exact ⟨a_, c_⟩
                        clear el_
                        obtain ⟨adC6, rfl⟩ := spec_l02Try.StX.some_cut HX6.out pa0
                        have qx6 : x < (le3.length : Int) := D9.out.2
                        have qx6b : (x < (le3.length : Int)) = True := eq_true qx6
                        have HSX := HX6
                        clear HX6
                        have n0_ := Aside0.mk (spec_l02Try.StX.drew HSX.out)
                        have n1_ := Aside0.mk (below_drew1 HB.out)
                        clear HSX HB
                        have HSX := n0_
                        have HB := n1_
                        clear n0_ n1_
                        have hw1_ := spec_l02Try.StX.c2 HSX.out
                        have hw2_ := spec_l02Try.StX.at_left HSX.out x px0 qx6
                        have hw3_ := spec_l02Try.StX.c0 HSX.out
                        have hw4_ := spec_l02Try.StX.at_cut HSX.out HB.out pa0
                        have hw5_ := spec_l02Try.StX.frz HSX.out x px0 qx6
                        refine start_ (n := 17) (S := fun w' => w'.cell? ⟨g, 2, none⟩ = some (.slice (some ⟨gl6, 0, none⟩) le3.length cL6) ∧ w'.cell? ⟨gl6, x.toNat, none⟩ = some (.int .i64 (rd le3 x)) ∧ w'.cell? ⟨g, 0, none⟩ = some (.slice (some adC6) cu.length cC6) ∧ w'.cell? (adC6.add ro.length) = some (.int .i64 (rd cu (ro.length : Int)))) (ds := [16]) #[false, false, false, false, false, false, false, false, false, false, false, false, false, false, false, false, false] (by kernel_rfl) rfl rfl ⟨hw1_, hw2_, hw3_, hw4_⟩ (fun hHeld => ?_); refine with_tabW spec_l02Try.tab17 spec_l02Try.bits17 (fun HT_ HW_ => ?_)
                        generalize World.drew _ = w25 at HSX HB hw1_ hw2_ hw3_ hw4_ hw5_ hHeld ⊢
                        refine pure_ (i := 0) (N := some 109) (v := ?_) (a' := ?_) #[true, false, false, false, false, false, false, false, false, false, false, false, false, false, false, false, false] rfl rfl (any_of HT_.out (by kernel_rfl)) (fun _ _ _ h => h) (Or.inl ⟨by rfl, ?_⟩) ?_ ?_
                        rotate_left
                        · intro w'
                          go_simp
                          with_reducible rfl
                        rotate_left
                        · simp only [Act.put, List.setIfInBounds_toArray, List.set_cons_zero, List.set_cons_succ, i64_w, i32_w]
                          rfl
                        refine pure_ (i := 1) (N := some 110) (v := ?_) (a' := ?_) #[true, true, false, false, false, false, false, false, false, false, false, false, false, false, false, false, false] rfl rfl (any_of HT_.out (by kernel_rfl)) (fun _ _ _ h => h) (Or.inl ⟨by rfl, ?_⟩) ?_ ?_
                        rotate_left
                        · intro w'
                          go_simp
                          with_reducible rfl
                        rotate_left
                        · simp only [Act.put, List.setIfInBounds_toArray, List.set_cons_zero, List.set_cons_succ, i64_w, i32_w]
                          rfl
                        refine pure_ (i := 2) (N := some 111) (v := ?_) (a' := ?_) #[true, true, true, false, false, false, false, false, false, false, false, false, false, false, false, false, false] rfl rfl (any_of HT_.out (by kernel_rfl)) (fun _ _ _ h => h) (Or.inl ⟨by rfl, ?_⟩) ?_ ?_
                        rotate_left
                        · intro w'
                          go_simp
                          with_reducible rfl
                        rotate_left
                        · simp only [Act.put, List.setIfInBounds_toArray, List.set_cons_zero, List.set_cons_succ, i64_w, i32_w]
                          rfl
                        refine pure_ (i := 4) (N := some 113) (v := ?_) (a' := ?_) #[true, true, true, false, true, false, false, false, false, false, false, false, false, false, false, false, false] rfl rfl (any_of HT_.out (by kernel_rfl)) (fun _ _ _ h => h) (Or.inl ⟨by rfl, ?_⟩) ?_ ?_
                        rotate_left
                        · intro w'
                          go_simp
                          with_reducible rfl
                        rotate_left
                        · simp only [Act.put, List.setIfInBounds_toArray, List.set_cons_zero, List.set_cons_succ, i64_w, i32_w]
                          rfl
                        refine pure_ (i := 7) (N := some 116) (v := ?_) (a' := ?_) #[true, true, true, false, true, false, false, true, false, false, false, false, false, false, false, false, false] rfl rfl (any_of HT_.out (by kernel_rfl)) (fun _ _ _ h => h) (Or.inl ⟨by rfl, ?_⟩) ?_ ?_
                        rotate_left
                        · intro w'
                          go_simp
                          with_reducible rfl
                        rotate_left
                        · simp only [Act.put, List.setIfInBounds_toArray, List.set_cons_zero, List.set_cons_succ, i64_w, i32_w]
                          rfl
                        refine pure_ (i := 8) (N := some 117) (v := ?_) (a' := ?_) #[true, true, true, false, true, false, false, true, true, false, false, false, false, false, false, false, false] rfl rfl (any_of HT_.out (by kernel_rfl)) (fun _ _ _ h => h) (Or.inl ⟨by rfl, ?_⟩) ?_ ?_
                        rotate_left
                        · intro w'
                          go_simp
                          with_reducible rfl
                        rotate_left
                        · simp only [Act.put, List.setIfInBounds_toArray, List.set_cons_zero, List.set_cons_succ, i64_w, i32_w]
                          rfl
                        refine pure_ (i := 9) (N := some 118) (v := ?_) (a' := ?_) #[true, true, true, false, true, false, false, true, true, true, false, false, false, false, false, false, false] rfl rfl (any_of HT_.out (by kernel_rfl)) (fun _ _ _ h => h) (Or.inl ⟨by rfl, ?_⟩) ?_ ?_
                        rotate_left
                        · intro w'
                          go_simp
                          with_reducible rfl
                        rotate_left
                        · simp only [Act.put, List.setIfInBounds_toArray, List.set_cons_zero, List.set_cons_succ, i64_w, i32_w]
                          rfl
                        refine pure_ (i := 11) (N := some 120) (v := ?_) (a' := ?_) #[true, true, true, false, true, false, false, true, true, true, false, true, false, false, false, false, false] rfl rfl (any_of HT_.out (by kernel_rfl)) (fun _ _ _ h => h) (Or.inl ⟨by rfl, ?_⟩) ?_ ?_
                        rotate_left
                        · intro w'
                          go_simp
                          with_reducible rfl
                        rotate_left
                        · simp only [Act.put, List.setIfInBounds_toArray, List.set_cons_zero, List.set_cons_succ, i64_w, i32_w]
                          rfl
                        refine take_ (i := 3) (N := some 112) (v := ?_) (a' := ?_) #[true, true, true, true, true, false, false, true, true, true, false, true, false, false, false, false, false] rfl rfl (take_ofW HT_.out HW_.out (by kernel_rfl)) (fun _ _ _ h => h) (Or.inl ⟨by rfl, ?_⟩) hHeld ?_ ?_
                        rotate_left
                        · rintro w' ⟨s0, s1, s2, s3⟩
                          go_simp
                          with_reducible rfl
                        rotate_left
                        · simp only [Act.put, List.setIfInBounds_toArray, List.set_cons_zero, List.set_cons_succ, i64_w, i32_w]
                          rfl
                        refine take_ (i := 10) (N := some 119) (v := ?_) (a' := ?_) #[true, true, true, true, true, false, false, true, true, true, true, true, false, false, false, false, false] rfl rfl (take_ofW HT_.out HW_.out (by kernel_rfl)) (fun _ _ _ h => h) (Or.inl ⟨by rfl, ?_⟩) hHeld ?_ ?_
                        rotate_left
                        · rintro w' ⟨s0, s1, s2, s3⟩
                          go_simp
                          with_reducible rfl
                        rotate_left
                        · simp only [Act.put, List.setIfInBounds_toArray, List.set_cons_zero, List.set_cons_succ, i64_w, i32_w]
                          rfl
                        refine pure_ (i := 5) (N := some 114) (v := ?_) (a' := ?_) #[true, true, true, true, true, true, false, true, true, true, true, true, false, false, false, false, false] rfl rfl (any_of HT_.out (by kernel_rfl)) (fun _ _ _ h => h) (Or.inl ⟨by rfl, ?_⟩) ?_ ?_
                        rotate_left
                        · intro w'
                          go_simp
                          with_reducible rfl
                        rotate_left
                        · simp only [Act.put, List.setIfInBounds_toArray, List.set_cons_zero, List.set_cons_succ, i64_w, i32_w]
                          rfl
                        refine pure_ (i := 12) (N := some 121) (v := ?_) (a' := ?_) #[true, true, true, true, true, true, false, true, true, true, true, true, true, false, false, false, false] rfl rfl (any_of HT_.out (by kernel_rfl)) (fun _ _ _ h => h) (Or.inl ⟨by rfl, ?_⟩) ?_ ?_
                        rotate_left
                        · intro w'
                          go_simp
                          with_reducible rfl
                        rotate_left
                        · simp only [Act.put, List.setIfInBounds_toArray, List.set_cons_zero, List.set_cons_succ, i64_w, i32_w]
                          rfl
                        refine take_ (i := 6) (N := some 115) (v := ?_) (a' := ?_) #[true, true, true, true, true, true, true, true, true, true, true, true, true, false, false, false, false] rfl rfl (take_ofW HT_.out HW_.out (by kernel_rfl)) (fun _ _ _ h => h) (Or.inl ⟨by rfl, ?_⟩) hHeld ?_ ?_
                        rotate_left
                        · rintro w' ⟨s0, s1, s2, s3⟩
                          go_simp
                          with_reducible rfl
                        rotate_left
                        · simp only [Act.put, List.setIfInBounds_toArray, List.set_cons_zero, List.set_cons_succ, i64_w, i32_w]
                          rfl
                        refine take_ (i := 13) (N := some 122) (v := ?_) (a' := ?_) #[true, true, true, true, true, true, true, true, true, true, true, true, true, true, false, false, false] rfl rfl (take_ofW HT_.out HW_.out (by kernel_rfl)) (fun _ _ _ h => h) (Or.inl ⟨by rfl, ?_⟩) hHeld ?_ ?_
                        rotate_left
                        · rintro w' ⟨s0, s1, s2, s3⟩
                          go_simp
                          with_reducible rfl
                        rotate_left
                        · simp only [Act.put, List.setIfInBounds_toArray, List.set_cons_zero, List.set_cons_succ, i64_w, i32_w]
                          rfl
                        refine pure_ (i := 14) (N := some 123) (v := ?_) (a' := ?_) #[true, true, true, true, true, true, true, true, true, true, true, true, true, true, true, false, false] rfl rfl (any_of HT_.out (by kernel_rfl)) (fun _ _ _ h => h) (Or.inl ⟨by rfl, ?_⟩) ?_ ?_
                        rotate_left
                        · intro w'
                          go_simp
                          with_reducible rfl
                        rotate_left
                        · simp only [Act.put, List.setIfInBounds_toArray, List.set_cons_zero, List.set_cons_succ, i64_w, i32_w]
                          rfl
                        refine pure_ (i := 15) (N := some 124) (v := ?_) (a' := ?_) #[true, true, true, true, true, true, true, true, true, true, true, true, true, true, true, true, false] rfl rfl (any_of HT_.out (by kernel_rfl)) (fun _ _ _ h => h) (Or.inl ⟨by rfl, ?_⟩) ?_ ?_
                        rotate_left
                        · intro w'
                          go_simp
                          with_reducible rfl
                        rotate_left
                        · simp only [Act.put, List.setIfInBounds_toArray, List.set_cons_zero, List.set_cons_succ, i64_w, i32_w]
                          rfl
                        refine last_ (i := 16) (N := none) #[true, true, true, true, true, true, true, true, true, true, true, true, true, true, true, true, true] rfl rfl (one_of HT_.out (by kernel_rfl)) (by decide) (fun K hK => ?_)
                        obtain ⟨w27, hw26_⟩ : ∃ w_, w_ = w25.setCell ⟨gl6, x.toNat, none⟩ (.int .i64 (wrap64 (rd le3 x + rd cu (ro.length : Int)))) := ⟨_, rfl⟩
                        refine skip_ (w1 := w27) (by rfl) rfl ?_ ?_
                        · rw [hw26_]
                          first | (go_simp; done) | (go_simp; rfl)
                        refine hK.out _ _ ?_
                        clear hK K
                        refine done_ (done_of HT_.out (by kernel_rfl)) ?_
                        have n0_ := Aside0.mk (show spec_l02Try.StX w0 w27 g (some adC6) cC6 (.slice AR6 ro.length cR6) (.slice (some ⟨gl6, 0, none⟩) (le3.set x.toNat (wrap64 (rd le3 x + rd cu (ro.length : Int)))).length cL6) cu (ro3.take ro.length) (le3.set x.toNat (wrap64 (rd le3 x + rd cu (ro.length : Int)))) bu tr3 from by rw [hw26_]; exact spec_l02Try.StX.setLe HSX.out x _)
                        have n1_ := Aside0.mk (show Below w0.heap.size w0 w27 from by rw [hw26_]; exact below_set HB.out (spec_l02Try.StX.gel HSX.out))
                        clear HSX HB hw1_ hw2_ hw3_ hw4_ hw5_ hw26_ hHeld
                        have HSX := n0_
                        have HB := n1_
                        clear n0_ n1_
                        try go_wp2
                        go_roundg k1
                        case measure => have := HK1.out; omega
                        case rel => exact ⟨wrap64 (x + 1), _, _, tr3, rfl, H', ⟨by have := HK1.out; omega⟩, ⟨spec_l02Try.StX.st (by repeat (first | exact HSX.out | apply spec_l02Try.StX.drewN | apply spec_l02Try.StX.drew))⟩, ⟨by repeat (first | (with_reducible first | exact HB.out | apply below_alloc | apply pw_below_drewN | apply below_drew1) | exact HB.out)⟩⟩
                      · rw [if_neg d9] at H
                        exact absurd H (by simp)
                    · rw [if_neg d8] at H
                      have d8b : (t1 != 0) = true := bne_iff_ne.mpr d8
                      clear d8
                      simp only [Option.some.injEq, Prod.mk.injEq] at H
                      obtain ⟨rfl, rfl, rfl, rfl⟩ := H
                      go_wp2_with (first | ((with_reducible refine gate_store (t := 2) (p := 64) rfl ?_); (try (rw [drewN_self wr]; generalize hq_ : World.drewN wr _ = wr; have n0_ := Aside0.mk (spec_l02Try.StX.at_ hq_ HSX.out); have n1_ := Aside0.mk (below_at hq_ HB.out); clear hq_ HSX HB; have HSX := n0_; have HB := n1_; clear n0_ n1_)); have hcq_ := spec_l02Try.StX.c4 HSX.out; have hfq_ := spec_l02Try.StX.fr HSX.out 4; refine store_event (t := 2) (p := 64) (v := ?vo_w64) (w1 := (wr.setCell ⟨g, 4, none⟩ (.int .i64 (wrap64 (tr2 + 1))))) ?hgs ?hos ?hns ?hrs ?_; (case hos => rfl); (case hgs => rfl); (case hns => rfl); (case hrs => first | (go_simp; done) | (go_simp; rfl)); intro w2 hw_; have n0_ := Aside0.mk (show spec_l02Try.StX w0 w2 g (some adC) cC (.slice AR ro2.length cR) (.slice (some ⟨gl, 0, none⟩) le2.length cL) cu ro2 le2 bu (wrap64 (tr2 + 1)) from by rw [hw_]; exact spec_l02Try.StX.setTr HSX.out _); have n1_ := Aside0.mk (show Below w0.heap.size w0 w2 from by rw [hw_]; exact below_set HB.out (spec_l02Try.StX.ge HSX.out)); clear HSX HB hw_ hcq_ hfq_; have HSX := n0_; have HB := n1_; clear n0_ n1_; have he0 := spec_l02Try.StX.c0 HSX.out; have he2 := spec_l02Try.StX.c2 HSX.out))
                      repeat (go_quiet (fail); try go_wp2_with (first | ((with_reducible refine gate_store (t := 2) (p := 64) rfl ?_); (try (rw [drewN_self wr]; generalize hq_ : World.drewN wr _ = wr; have n0_ := Aside0.mk (spec_l02Try.StX.at_ hq_ HSX.out); have n1_ := Aside0.mk (below_at hq_ HB.out); clear hq_ HSX HB; have HSX := n0_; have HB := n1_; clear n0_ n1_)); have hcq_ := spec_l02Try.StX.c4 HSX.out; have hfq_ := spec_l02Try.StX.fr HSX.out 4; refine store_event (t := 2) (p := 64) (v := ?vo_w64) (w1 := (wr.setCell ⟨g, 4, none⟩ (.int .i64 (wrap64 (tr2 + 1))))) ?hgs ?hos ?hns ?hrs ?_; (case hos => rfl); (case hgs => rfl); (case hns => rfl); (case hrs => first | (go_simp; done) | (go_simp; rfl)); intro w2 hw_; have n0_ := Aside0.mk (show spec_l02Try.StX w0 w2 g (some adC) cC (.slice AR ro2.length cR) (.slice (some ⟨gl, 0, none⟩) le2.length cL) cu ro2 le2 bu (wrap64 (tr2 + 1)) from by rw [hw_]; exact spec_l02Try.StX.setTr HSX.out _); have n1_ := Aside0.mk (show Below w0.heap.size w0 w2 from by rw [hw_]; exact below_set HB.out (spec_l02Try.StX.ge HSX.out)); clear HSX HB hw_ hcq_ hfq_; have HSX := n0_; have HB := n1_; clear n0_ n1_; have he0 := spec_l02Try.StX.c0 HSX.out; have he2 := spec_l02Try.StX.c2 HSX.out)))
                      have n0_ := Aside0.mk (spec_l02Try.StX.drew HSX.out)
                      have n1_ := Aside0.mk (below_drew1 HB.out)
                      clear HSX HB
                      have HSX := n0_
                      have HB := n1_
                      clear n0_ n1_
                      have hw1_ := spec_l02Try.StX.c2 HSX.out
                      have hw2_ := spec_l02Try.StX.at_left HSX.out x px0 qx0
                      have hw3_ := spec_l02Try.StX.c0 HSX.out
                      have hw4_ := spec_l02Try.StX.at_cut HSX.out HB.out pa0
                      have hw5_ := spec_l02Try.StX.frz HSX.out x px0 qx0
                      refine start_ (n := 17) (S := fun w' => w'.cell? ⟨g, 2, none⟩ = some (.slice (some ⟨gl, 0, none⟩) le2.length cL) ∧ w'.cell? ⟨gl, x.toNat, none⟩ = some (.int .i64 (rd le2 x)) ∧ w'.cell? ⟨g, 0, none⟩ = some (.slice (some adC) cu.length cC) ∧ w'.cell? (adC.add ro.length) = some (.int .i64 (rd cu (ro.length : Int)))) (ds := [16]) #[false, false, false, false, false, false, false, false, false, false, false, false, false, false, false, false, false] (by kernel_rfl) rfl rfl ⟨hw1_, hw2_, hw3_, hw4_⟩ (fun hHeld => ?_); refine with_tabW spec_l02Try.tab11 spec_l02Try.bits11 (fun HT_ HW_ => ?_)
                      generalize World.drew _ = w25 at HSX HB hw1_ hw2_ hw3_ hw4_ hw5_ hHeld ⊢
                      refine pure_ (i := 0) (N := some 65) (v := ?_) (a' := ?_) #[true, false, false, false, false, false, false, false, false, false, false, false, false, false, false, false, false] rfl rfl (any_of HT_.out (by kernel_rfl)) (fun _ _ _ h => h) (Or.inl ⟨by rfl, ?_⟩) ?_ ?_
                      rotate_left
                      · intro w'
                        go_simp
                        with_reducible rfl
                      rotate_left
                      · simp only [Act.put, List.setIfInBounds_toArray, List.set_cons_zero, List.set_cons_succ, i64_w, i32_w]
                        rfl
                      refine pure_ (i := 1) (N := some 66) (v := ?_) (a' := ?_) #[true, true, false, false, false, false, false, false, false, false, false, false, false, false, false, false, false] rfl rfl (any_of HT_.out (by kernel_rfl)) (fun _ _ _ h => h) (Or.inl ⟨by rfl, ?_⟩) ?_ ?_
                      rotate_left
                      · intro w'
                        go_simp
                        with_reducible rfl
                      rotate_left
                      · simp only [Act.put, List.setIfInBounds_toArray, List.set_cons_zero, List.set_cons_succ, i64_w, i32_w]
                        rfl
                      refine pure_ (i := 2) (N := some 67) (v := ?_) (a' := ?_) #[true, true, true, false, false, false, false, false, false, false, false, false, false, false, false, false, false] rfl rfl (any_of HT_.out (by kernel_rfl)) (fun _ _ _ h => h) (Or.inl ⟨by rfl, ?_⟩) ?_ ?_
                      rotate_left
                      · intro w'
                        go_simp
                        with_reducible rfl
                      rotate_left
                      · simp only [Act.put, List.setIfInBounds_toArray, List.set_cons_zero, List.set_cons_succ, i64_w, i32_w]
                        rfl
                      refine pure_ (i := 4) (N := some 69) (v := ?_) (a' := ?_) #[true, true, true, false, true, false, false, false, false, false, false, false, false, false, false, false, false] rfl rfl (any_of HT_.out (by kernel_rfl)) (fun _ _ _ h => h) (Or.inl ⟨by rfl, ?_⟩) ?_ ?_
                      rotate_left
                      · intro w'
                        go_simp
                        with_reducible rfl
                      rotate_left
                      · simp only [Act.put, List.setIfInBounds_toArray, List.set_cons_zero, List.set_cons_succ, i64_w, i32_w]
                        rfl
                      refine pure_ (i := 7) (N := some 72) (v := ?_) (a' := ?_) #[true, true, true, false, true, false, false, true, false, false, false, false, false, false, false, false, false] rfl rfl (any_of HT_.out (by kernel_rfl)) (fun _ _ _ h => h) (Or.inl ⟨by rfl, ?_⟩) ?_ ?_
                      rotate_left
                      · intro w'
                        go_simp
                        with_reducible rfl
                      rotate_left
                      · simp only [Act.put, List.setIfInBounds_toArray, List.set_cons_zero, List.set_cons_succ, i64_w, i32_w]
                        rfl
                      refine pure_ (i := 8) (N := some 73) (v := ?_) (a' := ?_) #[true, true, true, false, true, false, false, true, true, false, false, false, false, false, false, false, false] rfl rfl (any_of HT_.out (by kernel_rfl)) (fun _ _ _ h => h) (Or.inl ⟨by rfl, ?_⟩) ?_ ?_
                      rotate_left
                      · intro w'
                        go_simp
                        with_reducible rfl
                      rotate_left
                      · simp only [Act.put, List.setIfInBounds_toArray, List.set_cons_zero, List.set_cons_succ, i64_w, i32_w]
                        rfl
                      refine pure_ (i := 9) (N := some 74) (v := ?_) (a' := ?_) #[true, true, true, false, true, false, false, true, true, true, false, false, false, false, false, false, false] rfl rfl (any_of HT_.out (by kernel_rfl)) (fun _ _ _ h => h) (Or.inl ⟨by rfl, ?_⟩) ?_ ?_
                      rotate_left
                      · intro w'
                        go_simp
                        with_reducible rfl
                      rotate_left
                      · simp only [Act.put, List.setIfInBounds_toArray, List.set_cons_zero, List.set_cons_succ, i64_w, i32_w]
                        rfl
                      refine pure_ (i := 11) (N := some 76) (v := ?_) (a' := ?_) #[true, true, true, false, true, false, false, true, true, true, false, true, false, false, false, false, false] rfl rfl (any_of HT_.out (by kernel_rfl)) (fun _ _ _ h => h) (Or.inl ⟨by rfl, ?_⟩) ?_ ?_
                      rotate_left
                      · intro w'
                        go_simp
                        with_reducible rfl
                      rotate_left
                      · simp only [Act.put, List.setIfInBounds_toArray, List.set_cons_zero, List.set_cons_succ, i64_w, i32_w]
                        rfl
                      refine take_ (i := 3) (N := some 68) (v := ?_) (a' := ?_) #[true, true, true, true, true, false, false, true, true, true, false, true, false, false, false, false, false] rfl rfl (take_ofW HT_.out HW_.out (by kernel_rfl)) (fun _ _ _ h => h) (Or.inl ⟨by rfl, ?_⟩) hHeld ?_ ?_
                      rotate_left
                      · rintro w' ⟨s0, s1, s2, s3⟩
                        go_simp
                        with_reducible rfl
                      rotate_left
                      · simp only [Act.put, List.setIfInBounds_toArray, List.set_cons_zero, List.set_cons_succ, i64_w, i32_w]
                        rfl
                      refine take_ (i := 10) (N := some 75) (v := ?_) (a' := ?_) #[true, true, true, true, true, false, false, true, true, true, true, true, false, false, false, false, false] rfl rfl (take_ofW HT_.out HW_.out (by kernel_rfl)) (fun _ _ _ h => h) (Or.inl ⟨by rfl, ?_⟩) hHeld ?_ ?_
                      rotate_left
                      · rintro w' ⟨s0, s1, s2, s3⟩
                        go_simp
                        with_reducible rfl
                      rotate_left
                      · simp only [Act.put, List.setIfInBounds_toArray, List.set_cons_zero, List.set_cons_succ, i64_w, i32_w]
                        rfl
                      refine pure_ (i := 5) (N := some 70) (v := ?_) (a' := ?_) #[true, true, true, true, true, true, false, true, true, true, true, true, false, false, false, false, false] rfl rfl (any_of HT_.out (by kernel_rfl)) (fun _ _ _ h => h) (Or.inl ⟨by rfl, ?_⟩) ?_ ?_
                      rotate_left
                      · intro w'
                        go_simp
                        with_reducible rfl
                      rotate_left
                      · simp only [Act.put, List.setIfInBounds_toArray, List.set_cons_zero, List.set_cons_succ, i64_w, i32_w]
                        rfl
                      refine pure_ (i := 12) (N := some 77) (v := ?_) (a' := ?_) #[true, true, true, true, true, true, false, true, true, true, true, true, true, false, false, false, false] rfl rfl (any_of HT_.out (by kernel_rfl)) (fun _ _ _ h => h) (Or.inl ⟨by rfl, ?_⟩) ?_ ?_
                      rotate_left
                      · intro w'
                        go_simp
                        with_reducible rfl
                      rotate_left
                      · simp only [Act.put, List.setIfInBounds_toArray, List.set_cons_zero, List.set_cons_succ, i64_w, i32_w]
                        rfl
                      refine take_ (i := 6) (N := some 71) (v := ?_) (a' := ?_) #[true, true, true, true, true, true, true, true, true, true, true, true, true, false, false, false, false] rfl rfl (take_ofW HT_.out HW_.out (by kernel_rfl)) (fun _ _ _ h => h) (Or.inl ⟨by rfl, ?_⟩) hHeld ?_ ?_
                      rotate_left
                      · rintro w' ⟨s0, s1, s2, s3⟩
                        go_simp
                        with_reducible rfl
                      rotate_left
                      · simp only [Act.put, List.setIfInBounds_toArray, List.set_cons_zero, List.set_cons_succ, i64_w, i32_w]
                        rfl
                      refine take_ (i := 13) (N := some 78) (v := ?_) (a' := ?_) #[true, true, true, true, true, true, true, true, true, true, true, true, true, true, false, false, false] rfl rfl (take_ofW HT_.out HW_.out (by kernel_rfl)) (fun _ _ _ h => h) (Or.inl ⟨by rfl, ?_⟩) hHeld ?_ ?_
                      rotate_left
                      · rintro w' ⟨s0, s1, s2, s3⟩
                        go_simp
                        with_reducible rfl
                      rotate_left
                      · simp only [Act.put, List.setIfInBounds_toArray, List.set_cons_zero, List.set_cons_succ, i64_w, i32_w]
                        rfl
                      refine pure_ (i := 14) (N := some 79) (v := ?_) (a' := ?_) #[true, true, true, true, true, true, true, true, true, true, true, true, true, true, true, false, false] rfl rfl (any_of HT_.out (by kernel_rfl)) (fun _ _ _ h => h) (Or.inl ⟨by rfl, ?_⟩) ?_ ?_
                      rotate_left
                      · intro w'
                        go_simp
                        with_reducible rfl
                      rotate_left
                      · simp only [Act.put, List.setIfInBounds_toArray, List.set_cons_zero, List.set_cons_succ, i64_w, i32_w]
                        rfl
                      refine pure_ (i := 15) (N := some 80) (v := ?_) (a' := ?_) #[true, true, true, true, true, true, true, true, true, true, true, true, true, true, true, true, false] rfl rfl (any_of HT_.out (by kernel_rfl)) (fun _ _ _ h => h) (Or.inl ⟨by rfl, ?_⟩) ?_ ?_
                      rotate_left
                      · intro w'
                        go_simp
                        with_reducible rfl
                      rotate_left
                      · simp only [Act.put, List.setIfInBounds_toArray, List.set_cons_zero, List.set_cons_succ, i64_w, i32_w]
                        rfl
                      refine last_ (i := 16) (N := none) #[true, true, true, true, true, true, true, true, true, true, true, true, true, true, true, true, true] rfl rfl (one_of HT_.out (by kernel_rfl)) (by decide) (fun K hK => ?_)
                      obtain ⟨w26, hw26_⟩ : ∃ w_, w_ = w25.setCell ⟨gl, x.toNat, none⟩ (.int .i64 (wrap64 (rd le2 x - rd cu (ro.length : Int)))) := ⟨_, rfl⟩
                      refine skip_ (w1 := w26) (by rfl) rfl ?_ ?_
                      · rw [hw26_]
                        first | (go_simp; done) | (go_simp; rfl)
                      refine hK.out _ _ ?_
                      clear hK K
                      refine done_ (done_of HT_.out (by kernel_rfl)) ?_
                      have n0_ := Aside0.mk (show spec_l02Try.StX w0 w26 g (some adC) cC (.slice AR ro2.length cR) (.slice (some ⟨gl, 0, none⟩) (le2.set x.toNat (wrap64 (rd le2 x - rd cu (ro.length : Int)))).length cL) cu ro2 (le2.set x.toNat (wrap64 (rd le2 x - rd cu (ro.length : Int)))) bu (wrap64 (tr2 + 1)) from by rw [hw26_]; exact spec_l02Try.StX.setLe HSX.out x _)
                      have n1_ := Aside0.mk (show Below w0.heap.size w0 w26 from by rw [hw26_]; exact below_set HB.out (spec_l02Try.StX.gel HSX.out))
                      clear HSX HB hw1_ hw2_ hw3_ hw4_ hw5_ hw26_ hHeld
                      have HSX := n0_
                      have HB := n1_
                      clear n0_ n1_
                      have hg1 := spec_l02Try.StX.c1 HSX.out
                      have hgf := spec_l02Try.StX.fr HSX.out 1
                      go_wp2_with (first | ((with_reducible refine gate_builtin (b := .append) (xs := #[.tmp 85, .tmp 87]) rfl ?_); at_builtin; refine Kd.R_append (Kd.int .i64) (w0 := w0) w0.heap.size rfl (.tmp 85) (.tmp 87) 22 2 (.int .i64 0) 8 rfl Try.underlying22 info2 rfl (by decide) (by omega) (.slice AR ro2.length cR) ro2 x [.int .i64 x] (fun k => k ≠ g ∧ some k ≠ (.slice (some ⟨gl, 0, none⟩) (le2.set x.toNat (wrap64 (rd le2 x - rd cu (ro.length : Int)))).length cL : Value).ownBlock) (fun _ => False) rfl (by first | (go_simp; done) | (go_simp; rfl)) ?aP (fun _ hk => hk.elim) ?aF ?aO ?aB ?aS ?aL ?_; (case aP => exact rfl); (case aF => exact spec_l02Try.StX.fresh HSX.out); (case aO => exact spec_l02Try.StX.rolls HSX.out); (case aB => exact HB.out); (case aS => exact HB.out.size); (case aL => have := LM7.out; omega); intro v3 w3 ho hb hg hat; have HG3 := Aside0.mk (spec_l02Try.StX.grown1 HSX.out hg); have hcr_ : w3.cell? ⟨g, 1, none⟩ = some (.slice AR ro2.length cR) := (blk_cell HG3.out 1).trans rfl; have hfr_ := blk_frozen HG3.out 1; obtain ⟨A3, c3, e3⟩ := Kd.R_slice ho; subst e3; have n0_ := Aside0.mk (spec_l02Try.StX.append HSX.out ho hg hat); have n1_ := Aside0.mk hb; clear HB HSX ho hb hg hat; have HSX := n0_; have HB := n1_; clear n0_ n1_) | ((with_reducible refine gate_store (t := 22) (p := 90) rfl ?_); refine store_event (t := 22) (p := 90) (v := ?vo_w90) (w1 := (w3.setCell ⟨g, 1, none⟩ (.slice A3 (ro2 ++ [x]).length c3))) ?hgs ?hos ?hns ?hrs ?_; (case hos => rfl); (case hgs => rfl); (case hns => rfl); (case hrs => first | (go_simp; done) | (go_simp; rfl)); intro w4 hw_; have n0_ := Aside0.mk (show spec_l02Try.StX w0 w4 g (some adC) cC (.slice A3 (ro2 ++ [x]).length c3) (.slice (some ⟨gl, 0, none⟩) (le2.set x.toNat (wrap64 (rd le2 x - rd cu (ro.length : Int)))).length cL) cu (ro2 ++ [x]) (le2.set x.toNat (wrap64 (rd le2 x - rd cu (ro.length : Int)))) bu (wrap64 (tr2 + 1)) from by rw [hw_]; exact HSX.out); have n1_ := Aside0.mk (show Below w0.heap.size w0 w4 from by rw [hw_]; exact below_set HB.out (spec_l02Try.StX.ge HSX.out)); clear HSX HB hw_ hcr_ hfr_ HG3; have HSX := n0_; have HB := n1_; clear n0_ n1_) | (go_at_call 56; (refine (spec_l00Max.calls us (wrap64 (x + 1)) u _ AU.out).mono ?_); rintro e w5 ⟨rfl, hd_⟩; have hb_ := hd_.below; have n0_ := Aside0.mk (spec_l02Try.StX.below HSX.out hb_); have n1_ := Aside0.mk (below_then HB.out HB.out.size hb_); clear HSX HB hd_ hb_; have HSX := n0_; have HB := n1_; clear n0_ n1_) | (go_at_call 35; (refine (ih k1 (by have := HK1.out; omega) u (ro2 ++ [x]) (le2.set x.toNat (wrap64 (rd le2 x - rd cu (ro.length : Int)))) (wrap64 (tr2 + 1)) t1 ro3 le3 tr3 _ (spec_l02Try.StX.st (by repeat (first | exact HSX.out | apply spec_l02Try.StX.drewN | apply spec_l02Try.StX.drew))) (by repeat (first | (with_reducible first | exact HB.out | apply below_alloc | apply pw_below_drewN | apply below_drew1) | exact HB.out)) AR3.out).mono ?_); rintro e w6 ⟨rfl, hs_, hb_⟩; have HS6 := Aside0.mk hs_; have n1_ := Aside0.mk hb_; clear HSX HB hs_ hb_; have HB := n1_; clear n1_; obtain ⟨AC6, cC6, vR6, vL6, hX6⟩ := HS6.out; obtain ⟨AR6, cR6, e6_⟩ := Kd.R_slice hX6.rolls; subst e6_; obtain ⟨AL6, cL6, e7_⟩ := Kd.R_slice hX6.left; subst e7_; have HX6 := Aside0.mk hX6; clear hX6; have hs1_ := spec_l02Try.StX.c1 HX6.out; have hsf_ := spec_l02Try.StX.fr HX6.out 1))
                      repeat (go_quiet (fail); try go_wp2_with (first | ((with_reducible refine gate_builtin (b := .append) (xs := #[.tmp 85, .tmp 87]) rfl ?_); at_builtin; refine Kd.R_append (Kd.int .i64) (w0 := w0) w0.heap.size rfl (.tmp 85) (.tmp 87) 22 2 (.int .i64 0) 8 rfl Try.underlying22 info2 rfl (by decide) (by omega) (.slice AR ro2.length cR) ro2 x [.int .i64 x] (fun k => k ≠ g ∧ some k ≠ (.slice (some ⟨gl, 0, none⟩) (le2.set x.toNat (wrap64 (rd le2 x - rd cu (ro.length : Int)))).length cL : Value).ownBlock) (fun _ => False) rfl (by first | (go_simp; done) | (go_simp; rfl)) ?aP (fun _ hk => hk.elim) ?aF ?aO ?aB ?aS ?aL ?_; (case aP => exact rfl); (case aF => exact spec_l02Try.StX.fresh HSX.out); (case aO => exact spec_l02Try.StX.rolls HSX.out); (case aB => exact HB.out); (case aS => exact HB.out.size); (case aL => have := LM7.out; omega); intro v3 w3 ho hb hg hat; have HG3 := Aside0.mk (spec_l02Try.StX.grown1 HSX.out hg); have hcr_ : w3.cell? ⟨g, 1, none⟩ = some (.slice AR ro2.length cR) := (blk_cell HG3.out 1).trans rfl; have hfr_ := blk_frozen HG3.out 1; obtain ⟨A3, c3, e3⟩ := Kd.R_slice ho; subst e3; have n0_ := Aside0.mk (spec_l02Try.StX.append HSX.out ho hg hat); have n1_ := Aside0.mk hb; clear HB HSX ho hb hg hat; have HSX := n0_; have HB := n1_; clear n0_ n1_) | ((with_reducible refine gate_store (t := 22) (p := 90) rfl ?_); refine store_event (t := 22) (p := 90) (v := ?vo_w90) (w1 := (w3.setCell ⟨g, 1, none⟩ (.slice A3 (ro2 ++ [x]).length c3))) ?hgs ?hos ?hns ?hrs ?_; (case hos => rfl); (case hgs => rfl); (case hns => rfl); (case hrs => first | (go_simp; done) | (go_simp; rfl)); intro w4 hw_; have n0_ := Aside0.mk (show spec_l02Try.StX w0 w4 g (some adC) cC (.slice A3 (ro2 ++ [x]).length c3) (.slice (some ⟨gl, 0, none⟩) (le2.set x.toNat (wrap64 (rd le2 x - rd cu (ro.length : Int)))).length cL) cu (ro2 ++ [x]) (le2.set x.toNat (wrap64 (rd le2 x - rd cu (ro.length : Int)))) bu (wrap64 (tr2 + 1)) from by rw [hw_]; exact HSX.out); have n1_ := Aside0.mk (show Below w0.heap.size w0 w4 from by rw [hw_]; exact below_set HB.out (spec_l02Try.StX.ge HSX.out)); clear HSX HB hw_ hcr_ hfr_ HG3; have HSX := n0_; have HB := n1_; clear n0_ n1_) | (go_at_call 56; (refine (spec_l00Max.calls us (wrap64 (x + 1)) u _ AU.out).mono ?_); rintro e w5 ⟨rfl, hd_⟩; have hb_ := hd_.below; have n0_ := Aside0.mk (spec_l02Try.StX.below HSX.out hb_); have n1_ := Aside0.mk (below_then HB.out HB.out.size hb_); clear HSX HB hd_ hb_; have HSX := n0_; have HB := n1_; clear n0_ n1_) | (go_at_call 35; (refine (ih k1 (by have := HK1.out; omega) u (ro2 ++ [x]) (le2.set x.toNat (wrap64 (rd le2 x - rd cu (ro.length : Int)))) (wrap64 (tr2 + 1)) t1 ro3 le3 tr3 _ (spec_l02Try.StX.st (by repeat (first | exact HSX.out | apply spec_l02Try.StX.drewN | apply spec_l02Try.StX.drew))) (by repeat (first | (with_reducible first | exact HB.out | apply below_alloc | apply pw_below_drewN | apply below_drew1) | exact HB.out)) AR3.out).mono ?_); rintro e w6 ⟨rfl, hs_, hb_⟩; have HS6 := Aside0.mk hs_; have n1_ := Aside0.mk hb_; clear HSX HB hs_ hb_; have HB := n1_; clear n1_; obtain ⟨AC6, cC6, vR6, vL6, hX6⟩ := HS6.out; obtain ⟨AR6, cR6, e6_⟩ := Kd.R_slice hX6.rolls; subst e6_; obtain ⟨AL6, cL6, e7_⟩ := Kd.R_slice hX6.left; subst e7_; have HX6 := Aside0.mk hX6; clear hX6; have hs1_ := spec_l02Try.StX.c1 HX6.out; have hsf_ := spec_l02Try.StX.fr HX6.out 1)))
                      go_ret
                      exact ⟨rfl, spec_l02Try.StX.st (by repeat (first | exact HX6.out | apply spec_l02Try.StX.drewN | apply spec_l02Try.StX.drew)), by repeat (first | (with_reducible first | exact HB.out | apply below_alloc | apply pw_below_drewN | apply below_drew1) | exact HB.out)⟩
                  · rw [if_neg d7] at H
                    exact absurd H (by simp)
            · rw [if_neg d3] at H
              exact absurd H (by simp)
          · rw [if_neg d2] at H
            have d2b : decide (x < (le2.length : Int)) = false := decide_eq_false d2
            clear d2
            simp only [Option.some.injEq, Prod.mk.injEq] at H
            obtain ⟨rfl, rfl, rfl, rfl⟩ := H
            go_wp2
            repeat (go_quiet (fail); try go_wp2)
            go_ret
            exact ⟨rfl, spec_l02Try.StX.st (by repeat (first | exact HSX.out | apply spec_l02Try.StX.drewN | apply spec_l02Try.StX.drew)), by repeat (first | (with_reducible first | exact HB.out | apply below_alloc | apply pw_below_drewN | apply below_drew1) | exact HB.out)⟩
        · rw [if_neg d1] at H
          have d1b : decide (x ≤ us) = false := decide_eq_false d1
          clear d1
          simp only [Option.some.injEq, Prod.mk.injEq] at H
          obtain ⟨rfl, rfl, rfl, rfl⟩ := H
          go_wp2
          repeat (go_quiet (fail); try go_wp2)
          go_ret
          exact ⟨rfl, spec_l02Try.StX.st (by repeat (first | exact HSX.out | apply spec_l02Try.StX.drewN | apply spec_l02Try.StX.drew)), by repeat (first | (with_reducible first | exact HB.out | apply below_alloc | apply pw_below_drewN | apply below_drew1) | exact HB.out)⟩

end Go.Proofs.Ytipdmnibjkdpcaa.P
