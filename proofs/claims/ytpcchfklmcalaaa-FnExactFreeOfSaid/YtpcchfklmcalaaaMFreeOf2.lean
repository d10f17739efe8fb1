/- The Go functions that the law FnExactFreeOf comes to, as plain Lean functions, the proofs that calls of them return what those tell, and the plain lemmas on them; no condition but those that each theorem states. -/
import Derived.Test.YtpcchfklmcalaaaProg
import Derived.Test.YtpcchfklmcalaaaMFreeOf1
import Derived.Shelf.Abstract
import Derived.Below
import Derived.Deep.Draws
import Derived.Deep.AppendLies
import Derived.Maps.AppendAt
import Derived.OwnWalk
import Derived.Laws.BytesArg
import Derived.Laws.MakeOwn
import Derived.Laws.OwnMore
import Derived.Deep.OwnRows
import Derived.Tactics
import Derived.Lib.ConvBytes
import Derived.Laws.Slices
import Derived.WalkKit
import Derived.KernelRfl
import Derived.RowKit3
import Derived.Deep.LoopGhost
import Derived.Deep.QuietTactic
import Derived.BigQuiet
import Derived.WideLaws
import Derived.Deep.DeepCutAuto
import Derived.Deep.CutBlock
import Derived.Deep.RegionHeld3
import Derived.Laws.Rows
import Derived.Lib.AppendStr
import Derived.ArgAppend
import Derived.Laws.IdiomCopy
import Derived.OrdersHeld
import Derived.Laws.BitsLemmas
import Derived.RowKit
import Derived.StillTailTactics
import Derived.RangeFuncNested
import Derived.RangeFuncBound
import Derived.RangeFuncCalls
import Derived.RangeFuncLeaves
import Derived.RangeFuncBox
import Derived.Shelf.RegionOpen
import Derived.OwnWalkIn
import Derived.TacticsInMore
import Derived.LoopNIn
import Derived.LoopIn
import Derived.OpenShut
namespace Go.Proofs.Ytpcchfklmcalaaa.P
open Go.RowKit Go.Proofs.YtpcchfklmcalaaaW.PrintWords Go.Proofs.YtpcchfklmcalaaaW.PrintLast Go.Proofs.YtpcchfklmcalaaaW.PrintMore
def idxF {α : Type} (p : α → Bool) : List α → Int
  | [] => -1
  | x :: xs => if p x then 0 else if idxF p xs < 0 then -1 else idxF p xs + 1
theorem idxF_ge {α : Type} (p : α → Bool) (l : List α) : -1 ≤ idxF p l := by
  induction l with
  | nil => simp [idxF]
  | cons x xs ih => simp only [idxF]; split <;> (try split) <;> omega
theorem idxF_hit {α : Type} (p : α → Bool) (z : α) (l : List α) (k : Nat) (hk : k < l.length) (h : p (l.getD k z) = true) (hn : ∀ j, j < k → p (l.getD j z) = false) : idxF p l = k := by
  induction l generalizing k with
  | nil => simp at hk
  | cons x xs ih =>
    cases k with
    | zero => simp at h; simp [idxF, h]
    | succ k =>
      have h0 := hn 0 (by omega)
      simp at h0
      have := ih k (by simpa using hk) (by simpa using h) (fun j hj => by simpa using hn (j + 1) (by omega))
      simp only [idxF, h0, this]
      simp; omega
theorem idxF_miss {α : Type} (p : α → Bool) (z : α) (l : List α) (hn : ∀ j, j < l.length → p (l.getD j z) = false) : idxF p l = -1 := by
  induction l with
  | nil => rfl
  | cons x xs ih =>
    have h0 := hn 0 (by simp)
    simp at h0
    have := ih (fun j hj => by simpa using hn (j + 1) (by simpa using hj))
    simp [idxF, h0, this]
theorem idxF_any {α : Type} (p : α → Bool) (l : List α) : decide (0 ≤ idxF p l) = l.any p := by
  induction l with
  | nil => rfl
  | cons x xs ih =>
    simp only [idxF, List.any_cons, ← ih]
    by_cases h : p x = true
    · simp [h]
    · simp only [h]
      have := idxF_ge p xs
      by_cases h2 : idxF p xs < 0
      · simp [h2]
      · simp [h2]; omega
section
variable {P : Program} {ops : Array Oper} {Q : Exit → Act → World → Prop}
end
end Go.Proofs.Ytpcchfklmcalaaa.P

namespace Go.Proofs.Ytpcchfklmcalaaa.P
open Go.RowKit Go.Proofs.YtpcchfklmcalaaaW.PrintWords Go.Proofs.YtpcchfklmcalaaaW.PrintLast Go.Proofs.YtpcchfklmcalaaaW.PrintMore
attribute [local go_sem] max2_int min2_int max_two min_two max_three min_three max_four min_four
set_option linter.unusedVariables false
set_option linter.unusedSimpArgs false
def errW : Option Int → Value
  | none => .nilIface
  | some c => .iface 0 (.int .i64 c)
theorem errW_none : errW none = .nilIface := rfl
theorem errW_some (c : Int) : errW (some c) = .iface 0 (.int .i64 c) := rfl
theorem info2 : (Try.prog.info? 2).map (fun i => (i.zero, i.size, i.bytes)) = some (some (.int .i64 0), 1, 8) := by kernel_rfl
-- the values' own types
def rd_L1 (xs : List (List Int)) (i : Int) : (List Int) := xs.getD i.toNat ([] : List Int)
def rd_L4 (xs : List (List Int)) (i : Int) : (List Int) := xs.getD i.toNat ([] : List Int)
def rd_L5 (xs : List (List (List Int))) (i : Int) : (List (List Int)) := xs.getD i.toNat ([] : List (List Int))
structure S28 where
  f0 : (List Int)
  f1 : (List (List Int))
def z28 : S28 := ⟨([] : List Int), ([] : List (List Int))⟩
def k28 : Kd S28 := Kd.iso (Kd.pair (Kd.slice 57 (Kd.int .i16)) (Kd.slice 22 (Kd.slice 57 (Kd.int .i16)))) (fun x : S28 => (x.f0, x.f1))
def rd_T28 (xs : List S28) (i : Int) : S28 := xs.getD i.toNat z28
structure S25 where
  f0 : (List Int)
  f1 : (List (List Int))
def z25 : S25 := ⟨([] : List Int), ([] : List (List Int))⟩
def k25 : Kd S25 := Kd.iso (Kd.pair (Kd.slice 57 (Kd.int .i16)) (Kd.slice 22 (Kd.slice 57 (Kd.int .i16)))) (fun x : S25 => (x.f0, x.f1))
def rd_T25 (xs : List S25) (i : Int) : S25 := xs.getD i.toNat z25
end Go.Proofs.Ytpcchfklmcalaaa.P

namespace Go.Proofs.Ytpcchfklmcalaaa.P
open Go.RowKit Go.Proofs.YtpcchfklmcalaaaW.PrintWords Go.Proofs.YtpcchfklmcalaaaW.PrintLast Go.Proofs.YtpcchfklmcalaaaW.PrintMore
attribute [local go_sem] max2_int min2_int max_two min_two max_three min_three max_four min_four
set_option linter.unusedVariables false
set_option linter.unusedSimpArgs false
def spec_l00In.f (a0 : Int) (a1 : Int) (a2 : Int) : Option (Bool) := if a0 ≥ a1 then (some (decide (a0 ≤ a2))) else (some false)
set_option maxHeartbeats 8000000 in
set_option maxRecDepth 100000 in
theorem spec_l00In.calls (a0 : Int) (a1 : Int) (a2 : Int) (r : Bool) (w : World) (h : spec_l00In.f a0 a1 a2 = some r) :
    Calls Try.prog 66 #[.int .i64 a0, .int .i64 a1, .int .i64 a2] w fun e w' => e = .returned (.bool r) ∧ Drawn0 w w' := by
  have H : (if a0 ≥ a1 then (some (decide (a0 ≤ a2))) else (some false)) = some r := h
  clear h
  by_cases c4 : a0 ≥ a1
  rotate_left
  · rw [if_neg c4] at H
    have c4b0 : decide (a1 ≤ a0) = false := decide_eq_false c4
    clear c4
    obtain rfl := Option.some.inj H
    go_enter Try.func66, Try.ntmps66
    go_wp2
    go_ret
    exact ⟨by first | rfl | (simp; done) | (simp [*]; done), by repeat (first | exact Drawn0.refl _ | apply Drawn0.step)⟩
  rw [if_pos c4] at H
  have c4b0 : decide (a1 ≤ a0) = true := decide_eq_true c4
  clear c4
  obtain rfl := Option.some.inj H
  go_enter Try.func66, Try.ntmps66
  go_wp2
  go_ret
  exact ⟨by first | rfl | (simp; done) | (simp [*]; done), by repeat (first | exact Drawn0.refl _ | apply Drawn0.step)⟩
end Go.Proofs.Ytpcchfklmcalaaa.P

namespace Go.Proofs.Ytpcchfklmcalaaa.P
open Go.RowKit Go.Proofs.YtpcchfklmcalaaaW.PrintWords Go.Proofs.YtpcchfklmcalaaaW.PrintLast Go.Proofs.YtpcchfklmcalaaaW.PrintMore
attribute [local go_sem] max2_int min2_int max_two min_two max_three min_three max_four min_four
set_option linter.unusedVariables false
set_option linter.unusedSimpArgs false
def spec_l00Min.f (a0 : Int) (a1 : Int) : Option (Int) := if a0 < a1 then (some a0) else (some a1)
set_option maxHeartbeats 8000000 in
set_option maxRecDepth 100000 in
theorem spec_l00Min.calls (a0 : Int) (a1 : Int) (r : Int) (w : World) (h : spec_l00Min.f a0 a1 = some r) :
    Calls Try.prog 72 #[.int .i64 a0, .int .i64 a1] w fun e w' => e = .returned (.int .i64 r) ∧ Drawn0 w w' := by
  have H : (if a0 < a1 then (some a0) else (some a1)) = some r := h
  clear h
  by_cases c3 : a0 < a1
  rotate_left
  · rw [if_neg c3] at H
    have c3b0 : decide (a0 < a1) = false := decide_eq_false c3
    clear c3
    obtain rfl := Option.some.inj H
    go_enter Try.func72, Try.ntmps72
    go_wp2
    go_ret
    exact ⟨by first | rfl | (simp; done) | (simp [*]; done), by repeat (first | exact Drawn0.refl _ | apply Drawn0.step)⟩
  rw [if_pos c3] at H
  have c3b0 : decide (a0 < a1) = true := decide_eq_true c3
  clear c3
  obtain rfl := Option.some.inj H
  go_enter Try.func72, Try.ntmps72
  go_wp2
  go_ret
  exact ⟨by first | rfl | (simp; done) | (simp [*]; done), by repeat (first | exact Drawn0.refl _ | apply Drawn0.step)⟩
end Go.Proofs.Ytpcchfklmcalaaa.P

namespace Go.Proofs.Ytpcchfklmcalaaa.P
open Go.RowKit Go.Proofs.YtpcchfklmcalaaaW.PrintWords Go.Proofs.YtpcchfklmcalaaaW.PrintLast Go.Proofs.YtpcchfklmcalaaaW.PrintMore
attribute [local go_sem] max2_int min2_int max_two min_two max_three min_three max_four min_four
set_option linter.unusedVariables false
set_option linter.unusedSimpArgs false
mutual
def spec_FreeOf.l0 : Nat → List Int → Int → Bool → Int → Option (Int × Int)
  | 0, _, _, _, _ => none
  | k + 1, x0, x1, x6, x7 => if x7 < (x0.length : Int) then (if x6 = true then (if 0 ≤ x7 then ((spec_l00In.f (rd x0 x7) 0 10000).bind fun t548 => (spec_FreeOf.l0 k x0 x1 t548 (wrap64 (x7 + 1)))) else (none)) else (spec_FreeOf.l0 k x0 x1 false (wrap64 (x7 + 1)))) else (if x6 = true then (if (x0.length : Int) > 100 then (some (0, 3)) else (spec_FreeOf.l1 k x0 x1 0 10000 0)) else (some (0, 2)))
def spec_FreeOf.l1 : Nat → List Int → Int → Int → Int → Int → Option (Int × Int)
  | 0, _, _, _, _, _ => none
  | k + 1, x0, x1, x8, x9, x10 => if x10 < (x0.length : Int) then (if 0 ≤ x10 then ((spec_l00Min.f x9 (rd x0 x10)).bind fun t550 => (if x1 = 0 then (none) else (if (Int.tmod (wrap64 (x10 + 1)) x1) = 0 then (spec_FreeOf.l1 k x0 x1 (wrap64 (x8 + t550)) 10000 (wrap64 (x10 + 1))) else (spec_FreeOf.l1 k x0 x1 x8 t550 (wrap64 (x10 + 1)))))) else (none)) else (some (x8, 0))
end
def spec_FreeOf.f (k : Nat) (l0 : List Int) (a1 : Int) : Option (Int × Int) := (spec_l00In.f a1 2 8).bind fun t546 => (spec_FreeOf.l0 k l0 a1 t546 0)
set_option maxHeartbeats 8000000 in
set_option maxRecDepth 100000 in
theorem spec_FreeOf.calls (k : Nat) (A0 : Option Addr) (c0 : Nat) (l0 : List Int) (a1 : Int) (r1 : Int) (r2 : Int) (w : World) (hr0 : Kd.C (Kd.int .i64) w A0 l0.length l0) (hc0 : l0.length ≤ c0) (h : spec_FreeOf.f k l0 a1 = some (r1, r2)) :
    Calls Try.prog 33 #[.slice A0 l0.length c0, .int .i64 a1] w fun e w' => e = .returned (.tuple #[.int .i64 r1, .int .i64 r2]) ∧ Drawn0 w w' := by
  have HR0 := Aside0.mk hr0
  have HC0 := Aside0.mk hc0
  clear hr0 hc0
  have H : ((spec_l00In.f a1 2 8).bind fun t546 => (spec_FreeOf.l0 k l0 a1 t546 0)) = some (r1, r2) := h
  clear h
  replace H := Option.bind_eq_some_iff.mp H
  obtain ⟨t546, A30, H⟩ := H
  replace H : (spec_FreeOf.l0 k l0 a1 t546 0) = some (r1, r2) := H
  have A3 := Aside0.mk A30
  clear A30
  have H' := Aside0.mk H
  clear H
  go_enter Try.func33, Try.ntmps33
  go_wp2_with (first | ((with_reducible refine gate_callee (f := 66) rfl ?_); refine goesL_ (some 12) rfl rfl Try.func66 (by kernel_rfl) rfl #[.int .i64 a1, .int .i64 2, .int .i64 8] rfl (by (try simp only [List.map_toArray, List.map_cons, List.map_nil]); first | done | rfl | (simp only [List.length_drop, List.length_take]; rfl)) ?_; (with_reducible refine (spec_l00In.calls a1 2 8 t546 _ A3.out).mono ?_); rintro e w' ⟨rfl, ⟨nd, rfl⟩⟩; refine ⟨_, rfl, ?_⟩))
  go_loopg [6, 7] k (fun kq v6 v7 w' => ∃ (x6_1 : Bool) (x7_1 : Int), v6 = .bool x6_1 ∧ v7 = .int .i64 x7_1 ∧ Aside0 (spec_FreeOf.l0 kq l0 a1 x6_1 x7_1 = some (r1, r2)) ∧ Aside0 (kq ≤ k) ∧ Drawn0 w w')
  case atStart => exact ⟨(t546), (0), (by first | rfl | (simp; done) | (simp [*]; done)), (by first | rfl | (simp; done) | (simp [*]; done)), H', ⟨Nat.le_refl _⟩, by repeat (first | exact Drawn0.refl _ | apply Drawn0.step)⟩
  case round =>
    clear H'
    try clear p2
    try clear c3
    obtain ⟨x6_1, x7_1, rfl, rfl, HA, HK1, ⟨m1, rfl⟩⟩ := hrel
    cases gk with
    | zero => exact absurd HA.out (by simp [spec_FreeOf.l0])
    | succ k1 =>
      have H := HA.out
      clear HA
      simp only [spec_FreeOf.l0] at H
      by_cases c4 : x7_1 < (l0.length : Int)
      rotate_left
      · rw [if_neg c4] at H
        have c4b0 : decide (x7_1 < (l0.length : Int)) = false := decide_eq_false c4
        clear c4
        by_cases c8 : x6_1 = true
        rotate_left
        · replace c8 := Bool.eq_false_iff.mpr c8
          subst c8
          have H1 : (some (0, 2)) = some (r1, r2) := by rw [if_neg (show ¬ (false = true) by decide)] at H; exact H
          clear H
          have H := H1
          clear H1
          simp only [Option.some.injEq, Prod.mk.injEq] at H
          obtain ⟨rfl, rfl⟩ := H
          go_wp2
          go_ret2
          exact ⟨by first | rfl | (simp; done) | (simp [*]; done), by repeat (first | exact Drawn0.refl _ | apply Drawn0.step)⟩
        subst c8
        have H1 : (if (l0.length : Int) > 100 then (some (0, 3)) else (spec_FreeOf.l1 k1 l0 a1 0 10000 0)) = some (r1, r2) := by rw [if_pos rfl] at H; exact H
        clear H
        have H := H1
        clear H1
        by_cases c9 : (l0.length : Int) > 100
        rotate_left
        · rw [if_neg c9] at H
          have c9b0 : decide (100 < (l0.length : Int)) = false := decide_eq_false c9
          have c9b1 : decide (100 < l0.length) = false := decide_eq_false (by omega)
          clear c9
          have H' := Aside0.mk H
          clear H
          go_wp2
          go_loopg [8, 9, 10] k1 (fun kq v8 v9 v10 w' => ∃ (x8_2 : Int) (x9_2 : Int) (x10_2 : Int), v8 = .int .i64 x8_2 ∧ v9 = .int .i64 x9_2 ∧ v10 = .int .i64 x10_2 ∧ Aside0 (spec_FreeOf.l1 kq l0 a1 x8_2 x9_2 x10_2 = some (r1, r2)) ∧ Aside0 (kq ≤ k1) ∧ Drawn0 w w')
          case atStart => exact ⟨(0), (10000), (0), (by first | rfl | (simp; done) | (simp [*]; done)), (by first | rfl | (simp; done) | (simp [*]; done)), (by first | rfl | (simp; done) | (simp [*]; done)), H', ⟨Nat.le_refl _⟩, by repeat (first | exact Drawn0.refl _ | apply Drawn0.step)⟩
          case round =>
            clear H'
            try clear p2
            try clear c3
            try clear c4
            try clear c4b0
            try clear c5
            try clear p5
            try clear q5
            try clear hx5
            try clear c6
            try clear c6b0
            try clear p6
            try clear c8
            try clear c9
            try clear c9b0
            try clear c9b1
            try clear hx547_0
            try clear p2
            try clear p547
            try clear q547
            obtain ⟨x8_2, x9_2, x10_2, rfl, rfl, rfl, HA, HK2, ⟨m2, rfl⟩⟩ := hrel
            cases gk with
            | zero => exact absurd HA.out (by simp [spec_FreeOf.l1])
            | succ k2 =>
              have H := HA.out
              clear HA
              simp only [spec_FreeOf.l1] at H
              by_cases c10 : x10_2 < (l0.length : Int)
              rotate_left
              · rw [if_neg c10] at H
                have c10b0 : decide (x10_2 < (l0.length : Int)) = false := decide_eq_false c10
                clear c10
                simp only [Option.some.injEq, Prod.mk.injEq] at H
                obtain ⟨rfl, rfl⟩ := H
                go_wp2
                go_ret2
                exact ⟨by first | rfl | (simp; done) | (simp [*]; done), by repeat (first | exact Drawn0.refl _ | apply Drawn0.step)⟩
              rw [if_pos c10] at H
              have c10b0 : decide (x10_2 < (l0.length : Int)) = true := decide_eq_true c10
              clear c10
              by_cases c11 : 0 ≤ x10_2
              rotate_left
              · rw [if_neg c11] at H
                exact absurd H (by simp)
              rw [if_pos c11] at H
              have c11b0 : decide (0 ≤ x10_2) = true := decide_eq_true c11
              clear c11
              replace H := Option.bind_eq_some_iff.mp H
              obtain ⟨t550, A120, H⟩ := H
              replace H : (if a1 = 0 then (none) else (if (Int.tmod (wrap64 (x10_2 + 1)) a1) = 0 then (spec_FreeOf.l1 k2 l0 a1 (wrap64 (x8_2 + t550)) 10000 (wrap64 (x10_2 + 1))) else (spec_FreeOf.l1 k2 l0 a1 x8_2 t550 (wrap64 (x10_2 + 1))))) = some (r1, r2) := H
              have A12 := Aside0.mk A120
              clear A120
              by_cases c13 : a1 = 0
              rotate_left
              · rw [if_neg c13] at H
                have c13b0 : (a1 == 0) = false := beq_eq_false_iff_ne.mpr c13
                have c13b1 : (a1 != 0) = true := bne_iff_ne.mpr c13
                by_cases c14 : (Int.tmod (wrap64 (x10_2 + 1)) a1) = 0
                rotate_left
                · rw [if_neg c14] at H
                  have c14b0 : ((Int.tmod (wrap64 (x10_2 + 1)) a1) == 0) = false := beq_eq_false_iff_ne.mpr c14
                  have c14b1 : ((Int.tmod (wrap64 (x10_2 + 1)) a1) != 0) = true := bne_iff_ne.mpr c14
                  have H' := Aside0.mk H
                  clear H
                  have p549 : 0 ≤ (x10_2 : Int) := of_decide_eq_true (by first | (with_reducible assumption) | assumption)
                  have q549 : x10_2 < (l0.length : Int) := of_decide_eq_true (by first | (with_reducible assumption) | assumption)
                  obtain ⟨ad549, e549, hx549_0⟩ := Kd.at_int HR0.out x10_2 p549 q549
                  cases e549
                  replace p549 := eq_true p549
                  replace q549 := eq_true q549
                  go_wp2_with (first | ((with_reducible refine gate_callee (f := 72) rfl ?_); refine goesL_ (some 43) rfl rfl Try.func72 (by kernel_rfl) rfl #[.int .i64 x9_2, .int .i64 (rd l0 x10_2)] rfl (by (try simp only [List.map_toArray, List.map_cons, List.map_nil]); first | done | rfl | (simp only [List.length_drop, List.length_take]; rfl)) ?_; (with_reducible refine (spec_l00Min.calls x9_2 (rd l0 x10_2) t550 _ A12.out).mono ?_); rintro e w' ⟨rfl, ⟨nd, rfl⟩⟩; refine ⟨_, rfl, ?_⟩))
                  go_roundg k2
                  case measure => have := HK1.out; have := HK2.out; omega
                  case rel => exact ⟨(x8_2), (t550), (wrap64 (x10_2 + 1)), (by first | rfl | (simp; done) | (simp [*]; done)), (by first | rfl | (simp; done) | (simp [*]; done)), (by first | rfl | (simp; done) | (simp [*]; done)), H', ⟨by have := HK1.out; have := HK2.out; omega⟩, by repeat (first | exact Drawn0.refl _ | apply Drawn0.step)⟩
                rw [if_pos c14] at H
                have c14b0 : ((Int.tmod (wrap64 (x10_2 + 1)) a1) == 0) = true := beq_iff_eq.mpr c14
                have c14b1 : ((Int.tmod (wrap64 (x10_2 + 1)) a1) != 0) = false := bne_eq_false_iff_eq.mpr c14
                clear c14
                have H' := Aside0.mk H
                clear H
                have p549 : 0 ≤ (x10_2 : Int) := of_decide_eq_true (by first | (with_reducible assumption) | assumption)
                have q549 : x10_2 < (l0.length : Int) := of_decide_eq_true (by first | (with_reducible assumption) | assumption)
                obtain ⟨ad549, e549, hx549_0⟩ := Kd.at_int HR0.out x10_2 p549 q549
                cases e549
                replace p549 := eq_true p549
                replace q549 := eq_true q549
                go_wp2_with (first | ((with_reducible refine gate_callee (f := 72) rfl ?_); refine goesL_ (some 43) rfl rfl Try.func72 (by kernel_rfl) rfl #[.int .i64 x9_2, .int .i64 (rd l0 x10_2)] rfl (by (try simp only [List.map_toArray, List.map_cons, List.map_nil]); first | done | rfl | (simp only [List.length_drop, List.length_take]; rfl)) ?_; (with_reducible refine (spec_l00Min.calls x9_2 (rd l0 x10_2) t550 _ A12.out).mono ?_); rintro e w' ⟨rfl, ⟨nd, rfl⟩⟩; refine ⟨_, rfl, ?_⟩))
                go_roundg k2
                case measure => have := HK1.out; have := HK2.out; omega
                case rel => exact ⟨(wrap64 (x8_2 + t550)), (10000), (wrap64 (x10_2 + 1)), (by first | rfl | (simp; done) | (simp [*]; done)), (by first | rfl | (simp; done) | (simp [*]; done)), (by first | rfl | (simp; done) | (simp [*]; done)), H', ⟨by have := HK1.out; have := HK2.out; omega⟩, by repeat (first | exact Drawn0.refl _ | apply Drawn0.step)⟩
              rw [if_pos c13] at H
              exact absurd H (by simp)
        rw [if_pos c9] at H
        have c9b0 : decide (100 < (l0.length : Int)) = true := decide_eq_true c9
        have c9b1 : decide (100 < l0.length) = true := decide_eq_true (by omega)
        clear c9
        simp only [Option.some.injEq, Prod.mk.injEq] at H
        obtain ⟨rfl, rfl⟩ := H
        go_wp2
        go_ret2
        exact ⟨by first | rfl | (simp; done) | (simp [*]; done), by repeat (first | exact Drawn0.refl _ | apply Drawn0.step)⟩
      rw [if_pos c4] at H
      have c4b0 : decide (x7_1 < (l0.length : Int)) = true := decide_eq_true c4
      clear c4
      by_cases c5 : x6_1 = true
      rotate_left
      · replace c5 := Bool.eq_false_iff.mpr c5
        subst c5
        have H1 : (spec_FreeOf.l0 k1 l0 a1 false (wrap64 (x7_1 + 1))) = some (r1, r2) := by rw [if_neg (show ¬ (false = true) by decide)] at H; exact H
        clear H
        have H := H1
        clear H1
        have H' := Aside0.mk H
        clear H
        go_wp2
        go_roundg k1
        case measure => have := HK1.out; omega
        case rel => exact ⟨(false), (wrap64 (x7_1 + 1)), (by first | rfl | (simp; done) | (simp [*]; done)), (by first | rfl | (simp; done) | (simp [*]; done)), H', ⟨by have := HK1.out; omega⟩, by repeat (first | exact Drawn0.refl _ | apply Drawn0.step)⟩
      subst c5
      have H1 : (if 0 ≤ x7_1 then ((spec_l00In.f (rd l0 x7_1) 0 10000).bind fun t548 => (spec_FreeOf.l0 k1 l0 a1 t548 (wrap64 (x7_1 + 1)))) else (none)) = some (r1, r2) := by rw [if_pos rfl] at H; exact H
      clear H
      have H := H1
      clear H1
      by_cases c6 : 0 ≤ x7_1
      rotate_left
      · rw [if_neg c6] at H
        exact absurd H (by simp)
      rw [if_pos c6] at H
      have c6b0 : decide (0 ≤ x7_1) = true := decide_eq_true c6
      clear c6
      replace H := Option.bind_eq_some_iff.mp H
      obtain ⟨t548, A70, H⟩ := H
      replace H : (spec_FreeOf.l0 k1 l0 a1 t548 (wrap64 (x7_1 + 1))) = some (r1, r2) := H
      have A7 := Aside0.mk A70
      clear A70
      have H' := Aside0.mk H
      clear H
      have p547 : 0 ≤ (x7_1 : Int) := of_decide_eq_true (by first | (with_reducible assumption) | assumption)
      have q547 : x7_1 < (l0.length : Int) := of_decide_eq_true (by first | (with_reducible assumption) | assumption)
      obtain ⟨ad547, e547, hx547_0⟩ := Kd.at_int HR0.out x7_1 p547 q547
      cases e547
      replace p547 := eq_true p547
      replace q547 := eq_true q547
      go_wp2_with (first | (go_at_call 66; (with_reducible refine (spec_l00In.calls (rd l0 x7_1) 0 10000 t548 _ A7.out).mono ?_); rintro e w' ⟨rfl, ⟨nd, rfl⟩⟩))
      go_roundg k1
      case measure => have := HK1.out; omega
      case rel => exact ⟨(t548), (wrap64 (x7_1 + 1)), (by first | rfl | (simp; done) | (simp [*]; done)), (by first | rfl | (simp; done) | (simp [*]; done)), H', ⟨by have := HK1.out; omega⟩, by repeat (first | exact Drawn0.refl _ | apply Drawn0.step)⟩
end Go.Proofs.Ytpcchfklmcalaaa.P

namespace Go.Proofs.Ytpcchfklmcalaaa.P
open Go.RowKit Go.Proofs.YtpcchfklmcalaaaW.PrintWords Go.Proofs.YtpcchfklmcalaaaW.PrintLast Go.Proofs.YtpcchfklmcalaaaW.PrintMore
attribute [local go_sem] max2_int min2_int max_two min_two max_three min_three max_four min_four
set_option linter.unusedVariables false
set_option linter.unusedSimpArgs false
def laws_toInt64S.l0 : Nat → List Int → List Int → Int → Option (List Int)
  | 0, _, _, _ => none
  | k + 1, x0, x3, x4 => if x4 < (x0.length : Int) then (if 0 ≤ x4 then (if x4 < (x3.length : Int) then (laws_toInt64S.l0 k x0 (x3.set (x4 : Int).toNat (rd x0 x4)) (wrap64 (x4 + 1))) else (none)) else (none)) else (some x3)
def laws_toInt64S.f (k : Nat) (l0 : List Int) : Option (List Int) := if 0 ≤ (l0.length : Int) then (if ((l0.length : Int) : Int).toNat ≤ 35184372088832 then (laws_toInt64S.l0 k l0 (List.replicate ((l0.length : Int) : Int).toNat 0) 0) else (none)) else (none)
set_option maxHeartbeats 8000000 in
set_option maxRecDepth 100000 in
theorem laws_toInt64S.calls (k : Nat) (A0 : Option Addr) (c0 : Nat) (l0 : List Int) (r : List Int) (w : World) (hr0 : Kd.C (Kd.int .i64) w A0 l0.length l0) (hc0 : l0.length ≤ c0) (h : laws_toInt64S.f k l0 = some r) :
    Calls Try.prog 34 #[.slice A0 l0.length c0] w fun e w' => ∃ v0_ : Value, e = .returned (v0_) ∧ Kd.R (Kd.int .i64) 2 w' w.heap.size (fun _ => True) v0_ r ∧ Below w.heap.size w w' := by
  have HR0 := Aside0.mk hr0
  have HC0 := Aside0.mk hc0
  clear hr0 hc0
  have HB := Aside0.mk (Below.refl w.heap.size w)
  have H : (if 0 ≤ (l0.length : Int) then (if ((l0.length : Int) : Int).toNat ≤ 35184372088832 then (laws_toInt64S.l0 k l0 (List.replicate ((l0.length : Int) : Int).toNat 0) 0) else (none)) else (none)) = some r := h
  clear h
  by_cases c2 : 0 ≤ (l0.length : Int)
  rotate_left
  · rw [if_neg c2] at H
    exact absurd H (by simp)
  rw [if_pos c2] at H
  have c2b0 := eq_true c2
  have c2b1 : decide (0 ≤ (l0.length : Int)) = true := decide_eq_true c2
  clear c2
  by_cases c3 : ((l0.length : Int) : Int).toNat ≤ 35184372088832
  rotate_left
  · rw [if_neg c3] at H
    exact absurd H (by simp)
  rw [if_pos c3] at H
  have c3b0 := eq_true c3
  have c3b1 : decide (((l0.length : Int) : Int).toNat ≤ 35184372088832) = true := decide_eq_true c3
  clear c3
  obtain ⟨y551, hy551⟩ : ∃ y_ : List Int, y_ = (List.replicate ((l0.length : Int) : Int).toNat 0) := ⟨_, rfl⟩
  replace H : (laws_toInt64S.l0 k l0 y551 0) = some r := by first | (rw [hy551]; with_reducible exact H) | (have H2_ := (Option.bind_some _ _).symm.trans H; rw [hy551]; with_reducible exact H2_) | (have H2_ := (Option.bind_some _ _).symm.trans H; with_reducible exact H2_) | with_reducible exact H | (rw [hy551]; exact H) | exact H
  have Ny551 := Aside0.mk hy551
  clear hy551
  have H' := Aside0.mk H
  clear H
  go_enter Try.func34, Try.ntmps34
  go_wp2_with (first | ((with_reducible refine gate_dst (N := 7) rfl ?_); refine Kd.R_make (Kd.int .i64) _ 2 rfl (N := 7) rfl 45 _ _ rfl (l0.length : Int) rfl rfl Try.underlying45 (.int .i64 0) 8 info2 rfl (by decide) (by omega) 0 (ok := fun _ => True) (okp := fun _ => True) rfl (fun _ hk => hk) trivial (of_decide_eq_true (by first | (with_reducible assumption) | assumption)) (Nat.le_trans (Nat.mul_le_mul_right _ (of_decide_eq_true (by first | (with_reducible assumption) | assumption) : (l0.length : Int).toNat ≤ 35184372088832)) (by omega)) (Below.refl _ _) (Nat.le_refl _) ?_; intro v552 w4 ho5 hb hg_ hnew_; clear hg_ hnew_; (first | rw [← Ny551.out] at ho5 | (simp only [Int.reduceToNat] at ho5; rw [← Ny551.out] at ho5)); have n0_ := Aside0.mk (Kd.R_lower ho5 (below_size (by repeat (first | (with_reducible first | exact HB.out | apply below_alloc | apply pw_below_drewN | apply below_drew1) | exact HB.out)))); have n1_ := Aside0.mk (below_step (by repeat (first | (with_reducible first | exact HB.out | apply below_alloc | apply pw_below_drewN | apply below_drew1) | exact HB.out)) hb); clear HB; have HO553 := n0_; have HB := n1_; clear n0_ n1_; clear hb ho5))
  go_loopg [4] k (fun kq v4 w' => ∃ (x3_1 : List Int) (x4_1 : Int), v4 = .int .i64 x4_1 ∧ Aside0 (laws_toInt64S.l0 kq l0 x3_1 x4_1 = some r) ∧ Aside0 (kq ≤ k) ∧ Aside0 (Kd.R (Kd.int .i64) 2 w' w.heap.size (fun _ => True) v552 x3_1) ∧ Aside0 (Below w.heap.size w w'))
  case atStart => exact ⟨(y551), (0), (by first | rfl | (simp; done) | (simp [*]; done)), H', ⟨Nat.le_refl _⟩, ⟨by (with_reducible repeat (first | apply Kd.R_alloc | apply Kd.R_drewN | apply Kd.R_drew)); exact HO553.out⟩, ⟨by repeat (first | (with_reducible first | exact HB.out | apply below_alloc | apply pw_below_drewN | apply below_drew1) | exact HB.out)⟩⟩
  case round =>
    clear H'
    try clear c2
    try clear c2b0
    try clear c2b1
    try clear p2
    try clear c3
    try clear c3b0
    try clear c3b1
    obtain ⟨x3_1, x4_1, rfl, HA, HK1, HO_3, HB⟩ := hrel
    cases gk with
    | zero => exact absurd HA.out (by simp [laws_toInt64S.l0])
    | succ k1 =>
      have H := HA.out
      clear HA
      simp only [laws_toInt64S.l0] at H
      by_cases c6 : x4_1 < (l0.length : Int)
      rotate_left
      · rw [if_neg c6] at H
        have c6b0 : decide (x4_1 < (l0.length : Int)) = false := decide_eq_false c6
        clear c6
        obtain rfl := Option.some.inj H
        go_wp2
        go_ret
        exact ⟨_, by first | rfl | (simp [errW_none, errW_some] <;> rfl) | (simp [*, errW_none, errW_some] <;> rfl), by (with_reducible repeat (first | apply Kd.R_alloc | apply Kd.R_drewN | apply Kd.R_drew)); exact HO_3.out, by repeat (first | (with_reducible first | exact HB.out | apply below_alloc | apply pw_below_drewN | apply below_drew1) | exact HB.out)⟩
      rw [if_pos c6] at H
      have c6b0 : decide (x4_1 < (l0.length : Int)) = true := decide_eq_true c6
      clear c6
      by_cases c7 : 0 ≤ x4_1
      rotate_left
      · rw [if_neg c7] at H
        exact absurd H (by simp)
      rw [if_pos c7] at H
      have c7b0 : decide (0 ≤ x4_1) = true := decide_eq_true c7
      clear c7
      by_cases c8 : x4_1 < (x3_1.length : Int)
      rotate_left
      · rw [if_neg c8] at H
        exact absurd H (by simp)
      rw [if_pos c8] at H
      have c8b0 : decide (x4_1 < (x3_1.length : Int)) = true := decide_eq_true c8
      clear c8
      obtain ⟨y555, hy555⟩ : ∃ y_ : List Int, y_ = (x3_1.set (x4_1 : Int).toNat (rd l0 x4_1)) := ⟨_, rfl⟩
      replace H : (laws_toInt64S.l0 k1 l0 y555 (wrap64 (x4_1 + 1))) = some r := by first | (rw [hy555]; with_reducible exact H) | (have H2_ := (Option.bind_some _ _).symm.trans H; rw [hy555]; with_reducible exact H2_) | (have H2_ := (Option.bind_some _ _).symm.trans H; with_reducible exact H2_) | with_reducible exact H | (rw [hy555]; exact H) | exact H
      have Ny555 := Aside0.mk hy555
      clear hy555
      have H' := Aside0.mk H
      clear H
      have p554 : 0 ≤ (x4_1 : Int) := of_decide_eq_true (by first | (with_reducible assumption) | assumption)
      have q554 : x4_1 < (l0.length : Int) := of_decide_eq_true (by first | (with_reducible assumption) | assumption)
      obtain ⟨ad554, e554, hx554_0⟩ := Kd.at_int HR0.out x4_1 p554 q554
      cases e554
      replace hx554_0 := (HB.out.cell (World.block_lt_of_cell? w _ hx554_0)).trans hx554_0
      replace p554 := eq_true p554
      replace q554 := eq_true q554
      have p9 : 0 ≤ (x4_1 : Int) := of_decide_eq_true (by first | (with_reducible assumption) | assumption)
      have q9 : (x4_1 : Int) < ((x3_1.length : Int) : Int) := of_decide_eq_true (by first | (with_reducible assumption) | assumption)
      obtain ⟨go9, co9, eo9, gb9, gl9, cl9, HG9⟩ := Kd.R_form HO_3.out (by omega)
      (first | cases eo9 | (injection eo9 with ea_ en_ ec_; (first | subst ea_ | (injection ea_ with ea_; subst ea_)); subst ec_; clear en_))
      have GB9 := Aside0.mk gb9
      have GG9 := Aside0.mk HG9
      clear gb9 gl9 HG9
      obtain ⟨hx9_0, hf9_0⟩ := Kd.R_celln 0 HO_3.out (x4_1 : Int) p9 q9
      replace p9 := eq_true p9
      replace q9 := eq_true q9
      obtain ⟨hy10_, hz10_⟩ := Kd.R_celln 0 HO_3.out (x4_1 : Int) (of_decide_eq_true (by first | (with_reducible assumption) | assumption)) (of_decide_eq_true (by first | (with_reducible assumption) | assumption))
      have HP10 := Kd.R_putg HO_3.out (x4_1 : Int) (rd l0 x4_1)
      go_wp2_with (first | ((with_reducible refine gate_store (t := 2) (p := 20) rfl ?_); refine store_event (t := 2) (p := 20) (v := ?vo_w11) (w1 := (wr.setCell ⟨go9, (x4_1 : Int).toNat, none⟩ (.int .i64 (rd l0 x4_1)))) ?hg ?ho ?hn ?hr ?_; (case ho => rfl); (case hg => rfl); (case hn => rfl); (case hr => first | (go_simp; done) | (go_simp; rfl)); intro w11 hw; have hg : wr.grownBy w11 (some go9) := (by rw [hw]; exact HP10.2); have hp_ : Kd.R (Kd.int .i64) 2 w11 w.heap.size (fun _ => True) (.slice (some ⟨go9, 0, none⟩) x3_1.length co9) y555 := (by rw [hw, Ny555.out]; exact HP10.1); clear HP10; have n0_ := Aside0.mk (hp_); have n1_ := Aside0.mk ((by rw [hw]; exact below_set (HB.out) GB9.out : Below w.heap.size w w11)); clear HO_3; clear HB; have HO_3 := n0_; have HB := n1_; clear n0_ n1_; clear hg hw hp_))
      go_roundg k1
      case measure => have := HK1.out; omega
      case rel => exact ⟨(y555), (wrap64 (x4_1 + 1)), (by first | rfl | (simp; done) | (simp [*]; done)), H', ⟨by have := HK1.out; omega⟩, ⟨by (with_reducible repeat (first | apply Kd.R_alloc | apply Kd.R_drewN | apply Kd.R_drew)); exact HO_3.out⟩, ⟨by repeat (first | (with_reducible first | exact HB.out | apply below_alloc | apply pw_below_drewN | apply below_drew1) | exact HB.out)⟩⟩
end Go.Proofs.Ytpcchfklmcalaaa.P

namespace Go.Proofs.Ytpcchfklmcalaaa.P
open Go.RowKit Go.Proofs.YtpcchfklmcalaaaW.PrintWords Go.Proofs.YtpcchfklmcalaaaW.PrintLast Go.Proofs.YtpcchfklmcalaaaW.PrintMore
attribute [local go_sem] max2_int min2_int max_two min_two max_three min_three max_four min_four
set_option linter.unusedVariables false
set_option linter.unusedSimpArgs false
def impl_within.f (a0 : Int) (a1 : Int) (a2 : Int) : Option (Bool) := if a1 ≤ a0 then (some (decide (a0 ≤ a2))) else (some false)
set_option maxHeartbeats 8000000 in
set_option maxRecDepth 100000 in
theorem impl_within.calls (a0 : Int) (a1 : Int) (a2 : Int) (r : Bool) (w : World) (h : impl_within.f a0 a1 a2 = some r) :
    Calls Try.prog 43 #[.int .i64 a0, .int .i64 a1, .int .i64 a2] w fun e w' => e = .returned (.bool r) ∧ Drawn0 w w' := by
  have H : (if a1 ≤ a0 then (some (decide (a0 ≤ a2))) else (some false)) = some r := h
  clear h
  by_cases c4 : a1 ≤ a0
  rotate_left
  · rw [if_neg c4] at H
    have c4b0 : decide (a1 ≤ a0) = false := decide_eq_false c4
    clear c4
    obtain rfl := Option.some.inj H
    go_enter Try.func43, Try.ntmps43
    go_wp2
    go_ret
    exact ⟨by first | rfl | (simp; done) | (simp [*]; done), by repeat (first | exact Drawn0.refl _ | apply Drawn0.step)⟩
  rw [if_pos c4] at H
  have c4b0 : decide (a1 ≤ a0) = true := decide_eq_true c4
  clear c4
  obtain rfl := Option.some.inj H
  go_enter Try.func43, Try.ntmps43
  go_wp2
  go_ret
  exact ⟨by first | rfl | (simp; done) | (simp [*]; done), by repeat (first | exact Drawn0.refl _ | apply Drawn0.step)⟩
end Go.Proofs.Ytpcchfklmcalaaa.P

namespace Go.Proofs.Ytpcchfklmcalaaa.P
open Go.RowKit Go.Proofs.YtpcchfklmcalaaaW.PrintWords Go.Proofs.YtpcchfklmcalaaaW.PrintLast Go.Proofs.YtpcchfklmcalaaaW.PrintMore
attribute [local go_sem] max2_int min2_int max_two min_two max_three min_three max_four min_four
set_option linter.unusedVariables false
set_option linter.unusedSimpArgs false
def impl_size_int64.f (l0 : List Int) : Option (Int) := some (l0.length : Int)
set_option maxHeartbeats 8000000 in
set_option maxRecDepth 100000 in
theorem impl_size_int64.calls (A0 : Option Addr) (c0 : Nat) (l0 : List Int) (r : Int) (w : World) (hr0 : Kd.C (Kd.int .i64) w A0 l0.length l0) (hc0 : l0.length ≤ c0) (h : impl_size_int64.f l0 = some r) :
    Calls Try.prog 44 #[.slice A0 l0.length c0] w fun e w' => e = .returned (.int .i64 r) ∧ Drawn0 w w' := by
  have HR0 := Aside0.mk hr0
  have HC0 := Aside0.mk hc0
  clear hr0 hc0
  have H : (some (l0.length : Int)) = some r := h
  clear h
  obtain rfl := Option.some.inj H
  go_enter Try.func44, Try.ntmps44
  go_wp2
  go_ret
  exact ⟨by first | rfl | (simp; done) | (simp [*]; done), by repeat (first | exact Drawn0.refl _ | apply Drawn0.step)⟩
end Go.Proofs.Ytpcchfklmcalaaa.P

namespace Go.Proofs.Ytpcchfklmcalaaa.P
open Go.RowKit Go.Proofs.YtpcchfklmcalaaaW.PrintWords Go.Proofs.YtpcchfklmcalaaaW.PrintLast Go.Proofs.YtpcchfklmcalaaaW.PrintMore
attribute [local go_sem] max2_int min2_int max_two min_two max_three min_three max_four min_four
set_option linter.unusedVariables false
set_option linter.unusedSimpArgs false
set_option maxHeartbeats 2000000 in
theorem slices_IndexFunc_int64_int64.calls (Rel : World → World → Prop) (h0 : ∀ w, Rel w w) (ht : ∀ a b c, Rel a b → Rel b c → Rel a c) (hB : ∀ a b, Rel a b → Below a.heap.size a b) (g : Nat) (lb : Array Value) (p : Int → Bool) (A0 : Option Addr) (c0 : Nat) (l0 : List Int) (w : World) (hr0 : Kd.C (Kd.int .i64) w A0 l0.length l0)
    (eg : ∀ args w, (callFunc g args).run Try.prog w = .ok (.enter g args) w)
    (hp : ∀ (W : World) (x : Int), x ∈ l0 → Rel w W → Calls Try.prog g (#[.int .i64 x] ++ lb) W fun e w' => e = .returned (.bool (p x)) ∧ Rel W w') :
    Calls Try.prog 86 #[.slice A0 l0.length c0, .func (.func g) #[] lb] w fun e w' => e = .returned (.int .i64 (idxF p l0)) ∧ Rel w w' := by
  have HR := Aside0.mk (Kd.reads_of_C (d := (0 : Int)) hr0)
  have hbig : l0.length ≤ 9223372036854775807 := hr0.2.1
  have HP := Aside0.mk hp
  have H0 := Aside0.mk h0
  have HT := Aside0.mk ht
  have HBW := Aside0.mk hB
  clear hp hr0 h0 ht hB
  go_enter Try.func86, Try.ntmps86
  go_wp2
  go_loopg [5, 8] l0.length (fun gg _ s8 wr => ∃ kk : Nat, kk ≤ l0.length ∧ l0.length - kk ≤ gg ∧ s8 = .int .i64 kk ∧ Aside0 (Rel w wr) ∧ Aside0 (∀ j, j < kk → p (l0.getD j 0) = false))
  case atStart => exact ⟨0, Nat.zero_le _, by omega, rfl, ⟨H0.out _⟩, ⟨fun j hj => absurd hj (Nat.not_lt_zero _)⟩⟩
  case round =>
    obtain ⟨kk, hkk, hg, rfl, HB, HA⟩ := hrel
    by_cases hlt : kk < l0.length
    rotate_left
    · have hltz : ¬ (kk : Int) < (l0.length : Int) := by omega
      have HL := Aside0.mk (show kk = l0.length by omega)
      go_wp2
      go_ret
      refine ⟨?_, HB.out⟩
      rw [idxF_miss p 0 l0 (by rw [← HL.out]; exact HA.out)]
      rfl
    have hltz : (kk : Int) < (l0.length : Int) := by omega
    obtain ⟨ad, eA, hc⟩ := HR.out.2.2 (by omega)
    subst eA
    have hcell := pw_cell_below (HBW.out _ _ HB.out) (hc kk hlt)
    clear hc
    obtain ⟨y, hy⟩ : ∃ y, y = l0.getD kk 0 := ⟨_, rfl⟩
    rw [← hy] at hcell
    have hmem : y ∈ l0 := by rw [hy, List.getD_eq_getElem?_getD, List.getElem?_eq_getElem hlt]; exact List.getElem_mem hlt
    have HY := Aside0.mk hy
    clear hy
    have hcall := fun W hb => HP.out W y hmem hb
    cases hq : p y with
    | true =>
      rw [hq] at hcall
      have HQ := Aside0.mk hq
      clear hq
      go_wp2_with (go_at_fn g; refine (hcall _ HB.out).mono ?_; rintro e w' ⟨rfl, hb⟩; have HB2 := Aside0.mk hb; clear hb)
      go_ret
      refine ⟨?_, HT.out _ _ _ HB.out HB2.out⟩
      rw [idxF_hit p 0 l0 kk hlt (by rw [← HY.out]; exact HQ.out) HA.out]
      rfl
    | false =>
      rw [hq] at hcall
      have HQ := Aside0.mk hq
      clear hq
      go_wp2_with (go_at_fn g; refine (hcall _ HB.out).mono ?_; rintro e w' ⟨rfl, hb⟩; have HB2 := Aside0.mk hb; clear hb)
      go_roundg (l0.length - (kk + 1))
      case measure => omega
      case rel =>
        refine ⟨kk + 1, by omega, by omega, by go_num, ⟨HT.out _ _ _ HB.out HB2.out⟩, ⟨fun j hj => ?_⟩⟩
        by_cases e : j = kk
        rotate_left
        · exact HA.out j (by omega)
        subst e
        rw [← HY.out]; exact HQ.out
end Go.Proofs.Ytpcchfklmcalaaa.P

namespace Go.Proofs.Ytpcchfklmcalaaa.P
open Go.RowKit Go.Proofs.YtpcchfklmcalaaaW.PrintWords Go.Proofs.YtpcchfklmcalaaaW.PrintLast Go.Proofs.YtpcchfklmcalaaaW.PrintMore
attribute [local go_sem] max2_int min2_int max_two min_two max_three min_three max_four min_four
set_option linter.unusedVariables false
set_option linter.unusedSimpArgs false
set_option maxHeartbeats 2000000 in
theorem slices_ContainsFunc_int64_int64.calls (Rel : World → World → Prop) (h0 : ∀ w, Rel w w) (ht : ∀ a b c, Rel a b → Rel b c → Rel a c) (hB : ∀ a b, Rel a b → Below a.heap.size a b) (g : Nat) (lb : Array Value) (p : Int → Bool) (A0 : Option Addr) (c0 : Nat) (l0 : List Int) (w : World) (hr0 : Kd.C (Kd.int .i64) w A0 l0.length l0)
    (eg : ∀ args w, (callFunc g args).run Try.prog w = .ok (.enter g args) w)
    (hp : ∀ (W : World) (x : Int), x ∈ l0 → Rel w W → Calls Try.prog g (#[.int .i64 x] ++ lb) W fun e w' => e = .returned (.bool (p x)) ∧ Rel W w') :
    Calls Try.prog 75 #[.slice A0 l0.length c0, .func (.func g) #[] lb] w fun e w' => e = .returned (.bool (l0.any p)) ∧ Rel w w' := by
  rw [← idxF_any]
  have C := slices_IndexFunc_int64_int64.calls Rel h0 ht hB g lb p A0 c0 l0 w hr0 eg hp
  clear hp hr0 h0 ht hB
  go_enter Try.func75, Try.ntmps75
  go_wp2_with (go_at_call 86; refine C.mono ?_; rintro e w' ⟨rfl, hb⟩; have HB2 := Aside0.mk hb; clear hb)
  go_ret
  exact ⟨rfl, HB2.out⟩
end Go.Proofs.Ytpcchfklmcalaaa.P

namespace Go.Proofs.Ytpcchfklmcalaaa.P
open Go.RowKit Go.Proofs.YtpcchfklmcalaaaW.PrintWords Go.Proofs.YtpcchfklmcalaaaW.PrintLast Go.Proofs.YtpcchfklmcalaaaW.PrintMore
attribute [local go_sem] max2_int min2_int max_two min_two max_three min_three max_four min_four
set_option linter.unusedVariables false
set_option linter.unusedSimpArgs false
def impl_areWithin.f (l0 : List Int) (a1 : Int) (a2 : Int) : Option Bool := some (l0.all fun x => decide (a1 ≤ x) && decide (x ≤ a2))
set_option maxHeartbeats 2000000 in
theorem impl_areWithin.closure (B1 B2 : Nat) (a1 a2 : Int) (x : Int) (W : World) (h1 : W.cell? ⟨B1, 0, none⟩ = some (.int .i64 a1)) (h2 : W.cell? ⟨B2, 0, none⟩ = some (.int .i64 a2)) :
    Calls Try.prog 76 #[.int .i64 x, .pointer (some ⟨B1, 0, none⟩), .pointer (some ⟨B2, 0, none⟩)] W fun e w' => e = .returned (.bool (!(decide (a1 ≤ x) && decide (x ≤ a2)))) ∧ Below W.heap.size W w' := by
  have C := fun W => impl_within.calls x a1 a2 (decide (a1 ≤ x) && decide (x ≤ a2)) W (by unfold impl_within.f; by_cases h : a1 ≤ x <;> simp [h])
  generalize (decide (a1 ≤ x) && decide (x ≤ a2)) = r at C ⊢
  go_enter Try.func76, Try.ntmps76
  go_wp2_with (go_at_call 43; refine (C _).mono ?_; rintro e w' ⟨rfl, ⟨nd, rfl⟩⟩)
  go_ret
  exact ⟨rfl, pw_below_drewN (Below.refl _ _) _⟩
set_option maxHeartbeats 2000000 in
theorem impl_areWithin.calls (A0 : Option Addr) (c0 : Nat) (l0 : List Int) (a1 : Int) (a2 : Int) (r : Bool) (w : World) (hr0 : Kd.C (Kd.int .i64) w A0 l0.length l0) (hc0 : l0.length ≤ c0) (h : impl_areWithin.f l0 a1 a2 = some r) :
    Calls Try.prog 45 #[.slice A0 l0.length c0, .int .i64 a1, .int .i64 a2] w fun e w' => e = .returned (.bool r) ∧ Below w.heap.size w w' := by
  have hr : r = !(l0.any fun x => !(decide (a1 ≤ x) && decide (x ≤ a2))) := by
    have := Option.some.inj h
    rw [← this, List.any_eq_not_all_not, Bool.not_not]
    simp
  subst hr
  clear h
  have HBW := (below_alloc (below_alloc (Below.refl w.heap.size w) (.cells #[.int .i64 a1] 2)) (.cells #[.int .i64 a2] 2))
  have C := slices_ContainsFunc_int64_int64.calls (fun a b => Below a.heap.size a b) (fun w => Below.refl _ w) (fun a b c h k => below_then h h.size k) (fun a b h => h) 76 #[.pointer (some ⟨w.heap.size, 0, none⟩), .pointer (some ⟨w.heap.size + 1, 0, none⟩)] (fun x => !(decide (a1 ≤ x) && decide (x ≤ a2))) A0 c0 l0
    ((w.alloc (.cells #[.int .i64 a1] 2)).alloc (.cells #[.int .i64 a2] 2)) (Kd.C_below hr0 HBW) (enters_of Try.func76 (by kernel_rfl) rfl)
    (fun W x _ hb => impl_areWithin.closure _ _ a1 a2 x W
      ((hb.cell (p := ⟨w.heap.size, 0, none⟩) (by simp; omega)).trans (by simp))
      ((hb.cell (p := ⟨w.heap.size + 1, 0, none⟩) (by simp)).trans (by simp)))
  have HB1 := Aside0.mk HBW
  clear HBW hr0
  generalize (l0.any fun x => !(decide (a1 ≤ x) && decide (x ≤ a2))) = r at C ⊢
  go_enter Try.func45, Try.ntmps45
  go_wp2_with (go_at_call 75; refine C.mono ?_; rintro e w' ⟨rfl, hb⟩; have HB2 := Aside0.mk hb; clear hb)
  go_ret
  exact ⟨rfl, below_then HB1.out HB1.out.size HB2.out⟩
end Go.Proofs.Ytpcchfklmcalaaa.P

namespace Go.Proofs.Ytpcchfklmcalaaa.P
open Go.RowKit Go.Proofs.YtpcchfklmcalaaaW.PrintWords Go.Proofs.YtpcchfklmcalaaaW.PrintLast Go.Proofs.YtpcchfklmcalaaaW.PrintMore
attribute [local go_sem] max2_int min2_int max_two min_two max_three min_three max_four min_four
set_option linter.unusedVariables false
set_option linter.unusedSimpArgs false
-- IMPORT Derived.RangeFuncNested
-- IMPORT Derived.RangeFuncBound
-- IMPORT Derived.RangeFuncCalls
-- IMPORT Derived.RangeFuncLeaves
-- IMPORT Derived.RangeFuncBox
-- IMPORT Derived.Shelf.RegionOpen
-- IMPORT Derived.OwnWalkIn
-- IMPORT Derived.TacticsInMore
-- IMPORT Derived.LoopNIn
-- IMPORT Derived.LoopIn
open Go.Shelf
attribute [local go_sem] Oper.semAt_some
section
variable {F : Fence} {n : Nat} {P : Program} {ops : Array Oper} {md : Region.Mode} {C : World → Prop}
def slices_Backward_Lint16_int16.noDefer (l : List Oper) : Bool := l.all fun o => match o.op with | .defer _ => false | _ => true
theorem slices_Backward_Lint16_int16.noDefer_at {l : List Oper} (h : slices_Backward_Lint16_int16.noDefer l = true) {o : Oper} (ho : o ∈ l) : ∀ c, o.op ≠ .defer c := by
  intro c e
  have := List.all_eq_true.1 h o ho
  rw [e] at this
  simp at this
theorem slices_Backward_Lint16_int16.quietOp {o : Oper} {a : Act} {K : Act → Prop} {K' : Act → World → Prop} {Q' : Exit → Act → World → Prop} {w : World} (hnd : ∀ c, o.op ≠ .defer c) (hw : C w) (h : ∀ a w', C w' → K a → K' a w')
    (ha : o.askedIn F P a C) (hh : o.quietIn F n P a C K) : o.wpIn F n P a w K' Q' := by
  obtain ⟨v, h1, h2⟩ := hh
  have h3 := h1 w hw
  unfold Oper.quietAtIn at h3
  unfold Oper.wpIn
  refine ⟨ha w hw, ?_⟩
  rw [Oper.semAt_eq _ _ _ hnd]
  generalize (execOp a.eval o).run P w = r at *
  cases r with
  | ok x w' =>
    cases x <;> simp only [Oper.quietUponIn] at h3 <;> simp only [Oper.uponIn]
    case value u => rw [h3.1, h3.2]; exact h _ _ hw h2
    case skip => rw [h3.1, ← h3.2]; exact h _ _ hw h2
    case enter f args => rw [h3.1]; exact ⟨h3.2.1, h3.2.2.mono fun e w'' ⟨he, hw''⟩ => by subst he; exact h _ _ hw'' h2⟩
  | halt x w' => simp only [Oper.quietUponIn] at h3
theorem slices_Backward_Lint16_int16.quietStep {i : Nat} {a : Act} {K : Act → Prop} {K' : Act → World → Prop} {Q' : Exit → Act → World → Prop} {w : World} (hnd : slices_Backward_Lint16_int16.noDefer ops.toList = true) (hC : C w) (h : ∀ a w', C w' → K a → K' a w')
    (hh : qOpIn F n P ops C i K a) : wpOpIn F n P ops Q' i K' a w := by
  unfold qOpIn at hh
  unfold wpOpIn
  split
  · rename_i ho; simp only [ho] at hh; exact h _ _ hC hh
  · rename_i o ho
    simp only [ho] at hh
    have hm : o ∈ ops.toList := by simpa using Array.mem_of_getElem? ho
    split
    · rename_i hw; simp only [hw, if_true] at hh; exact slices_Backward_Lint16_int16.quietOp (slices_Backward_Lint16_int16.noDefer_at hnd hm) hC h hh.1 hh.2
    · rename_i hw; simp only [hw] at hh; exact ⟨hh.1 w hC, h _ _ hC hh.2⟩
theorem slices_Backward_Lint16_int16.quietAny {Q : Act → Prop} {Q' : Exit → Act → World → Prop} (hnd : slices_Backward_Lint16_int16.noDefer ops.toList = true) (hQ : ∀ a w, C w → Q a → Q' .normal a w) : ∀ (fuel : Nat) (listed : Array Bool) (a : Act) (w : World), C w →
    wpAnyQIn F n P md ops C Q fuel listed a → wpAnyIn F n P md ops Q' fuel listed a w
  | 0, _, _, _, hw, h => ⟨h.1, hQ _ _ hw h.2⟩
  | fuel + 1, _, _, _, hw, h => ⟨fun h0 => hQ _ _ hw (h.1 h0), fun i hi => slices_Backward_Lint16_int16.quietStep hnd hw (fun a' w' hw' => slices_Backward_Lint16_int16.quietAny hnd hQ fuel _ a' w' hw') (h.2 i hi)⟩
theorem slices_Backward_Lint16_int16.quietRegion {id : Nat} {Q : Exit → Act → World → Prop} {a : Act} {w : World} {l : List Oper} (hnd : slices_Backward_Lint16_int16.noDefer l = true) (hm : P.follows .mixedOrders = true) (hB : Region.lexB .any l.toArray = true)
    (h : wpQuietIn F n P l.toArray (fun w' => ∃ n, w' = w.drewN n) (fun a' => ∀ w', (∃ n, w' = w.drewN n) → Q .normal a' w') l a) : (Code.region id l.toArray true).wpIn F n P Q a w := by
  simp only [Region.lexB, Bool.and_eq_true] at hB
  refine wpIn_region_any hm (slices_Backward_Lint16_int16.quietAny (C := fun w' => ∃ n, w' = w.drewN n) (Q := fun a' => ∀ w', (∃ n, w' = w.drewN n) → Q .normal a' w') (by simpa using hnd) (fun _ w' hw' h => h w' hw') _ _ _ _ ⟨1, rfl⟩ ?_)
  have := wpAnyQIn_lex (F := F) (n := n) (C := fun w' => ∃ n, w' = w.drewN n) (md := .any) hB.1 l 0 (Array.replicate l.toArray.size false) a (by simp) (by simpa using hB.2) h
  simpa using this
end
def slices_Backward_Lint16_int16.backs (n : Nat) : (k : Nat) → k ≤ n → List (Fin n)
  | 0, _ => []
  | k + 1, h => slices_Backward_Lint16_int16.backs n k (by omega) ++ [⟨n - 1 - k, by omega⟩]
def slices_Backward_Lint16_int16.Kp (n₀ Bs : Nat) (W W' : World) : Prop := Below n₀ W W' ∧ W'.cell? ⟨Bs, 0, none⟩ = W.cell? ⟨Bs, 0, none⟩
end Go.Proofs.Ytpcchfklmcalaaa.P

namespace Go.Proofs.Ytpcchfklmcalaaa.P
open Go.RowKit Go.Proofs.YtpcchfklmcalaaaW.PrintWords Go.Proofs.YtpcchfklmcalaaaW.PrintLast Go.Proofs.YtpcchfklmcalaaaW.PrintMore
attribute [local go_sem] max2_int min2_int max_two min_two max_three min_three max_four min_four
set_option linter.unusedVariables false
set_option linter.unusedSimpArgs false
-- IMPORT Derived.RangeFuncNested
-- IMPORT Derived.RangeFuncBound
-- IMPORT Derived.RangeFuncCalls
-- IMPORT Derived.RangeFuncLeaves
-- IMPORT Derived.RangeFuncBox
-- IMPORT Derived.Shelf.RegionOpen
-- IMPORT Derived.OwnWalkIn
-- IMPORT Derived.TacticsInMore
-- IMPORT Derived.LoopNIn
-- IMPORT Derived.LoopIn
open Go.Shelf
attribute [local go_sem] Oper.semAt_some
def slices_Chunk_Lint64_int64.num (len m : Nat) : Nat := (len + m - 1) / m
theorem slices_Chunk_Lint64_int64.num_lt {len m k : Nat} (hm : 1 ≤ m) : k < slices_Chunk_Lint64_int64.num len m ↔ k * m < len := by
  have h := Nat.le_div_iff_mul_le (k := m) (x := k + 1) (y := len + m - 1) hm
  have e : (k + 1) * m = k * m + m := Nat.succ_mul k m
  unfold slices_Chunk_Lint64_int64.num
  omega
def slices_Chunk_Lint64_int64.chs (n : Nat) : (k : Nat) → k ≤ n → List (Fin n)
  | 0, _ => []
  | k + 1, h => slices_Chunk_Lint64_int64.chs n k (by omega) ++ [⟨k, by omega⟩]
theorem slices_Chunk_Lint64_int64.chs_len (n : Nat) : ∀ k h, (slices_Chunk_Lint64_int64.chs n k h).length = k
  | 0, _ => rfl
  | k + 1, h => by simp [slices_Chunk_Lint64_int64.chs, slices_Chunk_Lint64_int64.chs_len n k]
def slices_Chunk_Lint64_int64.Kp (n₀ Bs Bn : Nat) (W W' : World) : Prop := Below n₀ W W' ∧ W'.cell? ⟨Bs, 0, none⟩ = W.cell? ⟨Bs, 0, none⟩ ∧ W'.cell? ⟨Bn, 0, none⟩ = W.cell? ⟨Bn, 0, none⟩
theorem slices_Chunk_Lint64_int64.Kp_t {n₀ Bs Bn : Nat} {A B C : World} (h : slices_Chunk_Lint64_int64.Kp n₀ Bs Bn A B) (k : slices_Chunk_Lint64_int64.Kp n₀ Bs Bn B C) : slices_Chunk_Lint64_int64.Kp n₀ Bs Bn A C := ⟨h.1.trans k.1, k.2.1.trans h.2.1, k.2.2.trans h.2.2⟩
theorem slices_Chunk_Lint64_int64.Kp_b {n₀ Bs Bn : Nat} {w : World} (hn : n₀ ≤ w.heap.size) (hb : Bs < w.heap.size) (hb2 : Bn < w.heap.size) (W : World) (l : Nat) (o o' : Obj) (hl : w.heap.size ≤ l) (h : W.heap[l]? = some o) (h1 : o.isCells = false) (h2 : o.isWalk = false) : slices_Chunk_Lint64_int64.Kp n₀ Bs Bn W (W.putObj l o') :=
  ⟨belowK_b hn W l o o' hl h h1 h2, (belowK_b (n₀ := Bs + 1) (by omega) W l o o' hl h h1 h2).cell (p := ⟨Bs, 0, none⟩) (by simp), (belowK_b (n₀ := Bn + 1) (by omega) W l o o' hl h h1 h2).cell (p := ⟨Bn, 0, none⟩) (by simp)⟩
theorem slices_Chunk_Lint64_int64.Kp_d {n₀ Bs Bn : Nat} (W : World) (n : Nat) : slices_Chunk_Lint64_int64.Kp n₀ Bs Bn W (W.drewN n) := ⟨pw_below_drewN (Below.refl _ _) n, rfl, rfl⟩
theorem slices_Chunk_Lint64_int64.meas (i r m : Nat) (hr : 0 < r) (hm : 1 ≤ m) : (((i + r : Nat) : Int) - ((i : Int) + (m : Int))).toNat < (((i + r : Nat) : Int) - (i : Int)).toNat := by omega
theorem slices_Chunk_Lint64_int64.ww (k m i : Nat) (hi : i = k * m) (h1 : i ≤ 1000) (h2 : m ≤ 1000) : wrap64 ((i : Int) + (m : Int)) = (((k + 1) * m : Nat) : Int) := by
  rw [Nat.succ_mul, ← hi]
  unfold wrap64
  omega
theorem slices_Chunk_Lint64_int64.wm (m i : Nat) (h1 : i ≤ 1000) (h2 : m ≤ 1000) : wrap64 ((i : Int) + (m : Int)) = (i : Int) + (m : Int) := by
  unfold wrap64
  omega
theorem slices_Chunk_Lint64_int64.meas2 (i r m : Nat) (x : Int) (hx : x = (i : Int) + (m : Int)) (hr : 0 < r) (hm : 1 ≤ m) : (((i + r : Nat) : Int) - intOf (Value.int .i64 x)).toNat < (((i + r : Nat) : Int) - intOf (Value.int .i64 (i : Int))).toNat := by
  have e1 : intOf (Value.int .i64 x) = x := rfl
  have e2 : intOf (Value.int .i64 (i : Int)) = (i : Int) := rfl
  rw [e1, e2, hx]
  exact slices_Chunk_Lint64_int64.meas i r m hr hm
def slices_Chunk_Lint64_int64.arg (A0 : Option Addr) (len m x : Nat) : Value := .slice (A0.map fun ad => ad.add (x * m)) (min m (len - x * m)) (min m (len - x * m))
theorem slices_Chunk_Lint64_int64.chs_succ (n k : Nat) (h : k < n) : slices_Chunk_Lint64_int64.chs n k (Nat.le_of_lt h) ++ [⟨k, h⟩] = slices_Chunk_Lint64_int64.chs n (k + 1) (Nat.succ_le_of_lt h) := rfl
set_option maxRecDepth 100000 in
set_option maxHeartbeats 4000000 in
theorem slices_Chunk_Lint64_int64.body_in (F : Fence) (n : Nat) (h8 : F.fn 85) (hro : F.round = none) (hn : 1 ≤ n) (l Bs Bn n₀ : Nat) (A0 : Option Addr) (c0 len m : Nat) (hm : 1 ≤ m) (hm8 : m ≤ 1000) (hlen : len ≤ 1000) (hc0 : len ≤ c0) (N : Nat) (hN : ∀ k, k < N ↔ k * m < len) (J Jx : List (Fin (N)) → World → Prop)
    (hJ : ∀ pre W k, J pre W → J pre (W.drewN k))
    (hY : ∀ pre x W, J pre W → pre.length < N → YieldAt F (n - 1) Try.prog l #[slices_Chunk_Lint64_int64.arg A0 len m x.1] W fun e W' =>
      (e = .returned (.bool true) ∧ J (pre ++ [x]) W' ∧ slices_Chunk_Lint64_int64.Kp n₀ Bs Bn W W') ∨ (e = .returned (.bool false) ∧ Jx (pre ++ [x]) W'))
    (W : World) (hBs : W.cell? ⟨Bs, 0, none⟩ = some (.slice A0 len c0)) (hBn : W.cell? ⟨Bn, 0, none⟩ = some (.int .i64 m)) (hR : 0 < len → ∃ ad, A0 = some ad) (h0 : J [] W) :
    CallsIn F n Try.prog 85 #[.func (.yield l) #[] #[], .pointer (some ⟨Bs, 0, none⟩), .pointer (some ⟨Bn, 0, none⟩)] W fun e W' => (∃ v, e = .returned v) ∧
      ((∃ ys, ys = slices_Chunk_Lint64_int64.chs _ _ (Nat.le_refl _) ∧ J ys W') ∨ (∃ pre, (∃ k h, pre = slices_Chunk_Lint64_int64.chs _ k h) ∧ Jx pre W')) := by
  refine callsIn_of_wp Try.func85 rfl h8 ?_ hro
  simp only [Try.ntmps85, List.size_toArray, List.length_cons, List.length_nil, Nat.reduceAdd, Nat.reduceSub, Array.replicate_succ, Array.replicate_zero, List.push_toArray, List.append_toArray, List.nil_append, List.cons_append]
  have HLEN := Aside0.mk hlen
  have HC0 := Aside0.mk hc0
  have HM := Aside0.mk hm
  have HM8 := Aside0.mk hm8
  have HJ := Aside0.mk hJ
  have HN := Aside0.mk hN
  clear hN
  clear hlen hc0 hm hm8 hJ
  gi_wp2
  gi_loopw [4] (fun i wr => ∃ (k : Nat) (hk : k ≤ N), i = .int .i64 ((k * m : Nat) : Int) ∧ J (slices_Chunk_Lint64_int64.chs _ k hk) wr ∧ slices_Chunk_Lint64_int64.Kp n₀ Bs Bn W wr)
    (fun i _ => ((len : Int) - intOf i).toNat)
  case atStart => exact ⟨0, Nat.zero_le _, by simp, h0, Below.refl _ _, rfl, rfl⟩
  case round =>
    obtain ⟨k, hk, rfl, hJs, hnx⟩ := hrel
    obtain ⟨i, hi⟩ : ∃ i, i = k * m := ⟨_, rfl⟩
    rw [← hi]
    by_cases hlt : i < len
    rotate_left
    · have hnl : ¬ (i : Int) < (len : Int) := by omega
      have hkn : k = N := by have := HN.out k; omega
      have HI := Aside0.mk hi
      have hbx := hnx.2.1.trans hBs
      clear hi
      subst hkn
      gi_wp2
      go_end0
      first | exact ⟨⟨_, rfl⟩, .inl ⟨_, rfl, hJs⟩⟩ | exact ⟨⟨_, rfl⟩, .inl hJs⟩
    have hkM : k < N := (HN.out k).2 (by omega)
    obtain ⟨ad, eA⟩ := hR (by omega)
    subst eA
    have hbx := hnx.2.1.trans hBs
    have hbn := hnx.2.2.trans hBn
    have hYk := fun nd => hY _ ⟨k, hkM⟩ (wr.drewN nd) (HJ.out _ wr nd hJs) (by rw [slices_Chunk_Lint64_int64.chs_len]; exact hkM)
    unfold slices_Chunk_Lint64_int64.arg at hYk
    simp only [Option.map_some, ← hi] at hYk
    have HI := Aside0.mk hi
    clear hi
    obtain ⟨r, hr⟩ : ∃ r, len = i + r := ⟨len - i, by omega⟩
    subst hr
    rw [Nat.add_sub_cancel_left] at hYk
    have hltz : (i : Int) < ((i + r : Nat) : Int) := by omega
    have hltz' : (i : Int) < (i : Int) + (r : Int) := by omega
    have hr0 : 0 < r := by omega
    have hi0 : (0 : Int) ≤ (i : Int) := by omega
    have hlc' : i + r ≤ c0 := HC0.out
    have hlc : (i : Int) + (r : Int) ≤ (c0 : Int) := by omega
    have hic : (i : Int) ≤ (c0 : Int) := by omega
    have hic' : i ≤ c0 := by omega
    have hne : ¬ c0 = i := by omega
    rcases Nat.lt_or_ge r m with hmr | hmr
    · have hmin : min m r = r := by omega
      rw [hmin] at hYk
      have HYK := Aside0.mk hYk
      clear hYk
      have hm1 : ¬ ((m : Int) ≤ (r : Int)) := by omega
      have hm2 : (r : Int) < (m : Int) := by omega
      have hm3 : ¬ m ≤ r := by omega
      have hm4 : (r : Int) ≤ (m : Int) := by omega
      have hmn : mn (m : Int) (r : Int) = (r : Int) := by unfold mn; split <;> omega
      have hw : wrap64 ((i : Int) + (r : Int)) = (i : Int) + (r : Int) := by have := HLEN.out; unfold wrap64; omega
      have hn0 : ¬ r = 0 := by omega
      gi_wp2
      refine slices_Backward_Lint16_int16.quietRegion (by kernel_rfl) (by kernel_rfl) (by kernel_rfl) ?_
      repeat (first | gi_big_quiet_skip | (gi_big_quiet_want; gi_big_quiet_op; go_big_quiet_on))
      refine wpQuietIn_nil ?_
      rintro _ ⟨nq, rfl⟩
      have hbx2 : (wr.drewN nq).cell? ⟨Bs, 0, none⟩ = some (.slice (some ad) (i + r) c0) := hbx
      have hbn2 : (wr.drewN nq).cell? ⟨Bn, 0, none⟩ = some (.int .i64 m) := hbn
      obtain ⟨fn, tmps, assign, body, hy, hRR⟩ := HYK.out nq
      gi_wp2
      refine hRR.mono ?_
      rintro e_ W3 (⟨rfl, hJ3, hk3⟩ | ⟨rfl, hJx3⟩)
      · have hbn3 := hk3.2.2.trans hbn2
        gi_wp2
        have hww := slices_Chunk_Lint64_int64.ww k m i HI.out (Nat.le_trans (Nat.le_add_right i r) HLEN.out) HM8.out
        have hwm := slices_Chunk_Lint64_int64.wm m i (Nat.le_trans (Nat.le_add_right i r) HLEN.out) HM8.out
        go_roundw
        case rel => exact ⟨k + 1, Nat.succ_le_of_lt hkM, congrArg (Value.int .i64) hww, (slices_Chunk_Lint64_int64.chs_succ N k hkM) ▸ hJ3, slices_Chunk_Lint64_int64.Kp_t (slices_Chunk_Lint64_int64.Kp_t hnx (slices_Chunk_Lint64_int64.Kp_d wr nq)) hk3⟩
        case measure =>
          exact slices_Chunk_Lint64_int64.meas2 i r m _ hwm hr0 HM.out
      · gi_wp2
        refine bodyPost_ret (results_none rfl _ _ _) rfl ?_
        first | exact ⟨⟨_, rfl⟩, .inr ⟨_, ⟨k + 1, Nat.succ_le_of_lt hkM, (slices_Chunk_Lint64_int64.chs_succ N k hkM).symm⟩, hJx3⟩⟩ | exact ⟨⟨_, rfl⟩, .inr ⟨k + 1, by omega, hJx3⟩⟩
    · have hmin : min m r = m := by omega
      rw [hmin] at hYk
      have HYK := Aside0.mk hYk
      clear hYk
      have hm1 : ((m : Int) ≤ (r : Int)) := by omega
      have hm2 : ¬ (r : Int) < (m : Int) := by omega
      have hm3 : m ≤ r := by omega
      have hmn : mn (m : Int) (r : Int) = (m : Int) := by unfold mn; split <;> omega
      have hw : wrap64 ((i : Int) + (m : Int)) = (i : Int) + (m : Int) := by have := HLEN.out; unfold wrap64; omega
      have hcm : (i : Int) + (m : Int) ≤ (c0 : Int) := by omega
      have hcm' : i + m ≤ c0 := by omega
      have hn0 : ¬ m = 0 := by have := HM.out; omega
      gi_wp2
      refine slices_Backward_Lint16_int16.quietRegion (by kernel_rfl) (by kernel_rfl) (by kernel_rfl) ?_
      repeat (first | gi_big_quiet_skip | (gi_big_quiet_want; gi_big_quiet_op; go_big_quiet_on))
      refine wpQuietIn_nil ?_
      rintro _ ⟨nq, rfl⟩
      have hbx2 : (wr.drewN nq).cell? ⟨Bs, 0, none⟩ = some (.slice (some ad) (i + r) c0) := hbx
      have hbn2 : (wr.drewN nq).cell? ⟨Bn, 0, none⟩ = some (.int .i64 m) := hbn
      obtain ⟨fn, tmps, assign, body, hy, hRR⟩ := HYK.out nq
      gi_wp2
      refine hRR.mono ?_
      rintro e_ W3 (⟨rfl, hJ3, hk3⟩ | ⟨rfl, hJx3⟩)
      · have hbn3 := hk3.2.2.trans hbn2
        gi_wp2
        have hww := slices_Chunk_Lint64_int64.ww k m i HI.out (Nat.le_trans (Nat.le_add_right i r) HLEN.out) HM8.out
        have hwm := slices_Chunk_Lint64_int64.wm m i (Nat.le_trans (Nat.le_add_right i r) HLEN.out) HM8.out
        go_roundw
        case rel => exact ⟨k + 1, Nat.succ_le_of_lt hkM, congrArg (Value.int .i64) hww, (slices_Chunk_Lint64_int64.chs_succ N k hkM) ▸ hJ3, slices_Chunk_Lint64_int64.Kp_t (slices_Chunk_Lint64_int64.Kp_t hnx (slices_Chunk_Lint64_int64.Kp_d wr nq)) hk3⟩
        case measure =>
          exact slices_Chunk_Lint64_int64.meas2 i r m _ hwm hr0 HM.out
      · gi_wp2
        refine bodyPost_ret (results_none rfl _ _ _) rfl ?_
        first | exact ⟨⟨_, rfl⟩, .inr ⟨_, ⟨k + 1, Nat.succ_le_of_lt hkM, (slices_Chunk_Lint64_int64.chs_succ N k hkM).symm⟩, hJx3⟩⟩ | exact ⟨⟨_, rfl⟩, .inr ⟨k + 1, by omega, hJx3⟩⟩
set_option maxHeartbeats 1000000 in
theorem slices_Chunk_Lint64_int64.make_in (F : Fence) (n : Nat) (h5 : F.fn 73) (hro : F.round = none) (a : Option Addr) (len cap m : Nat) (hm : 1 ≤ m) (w : World) :
    CallsIn F n Try.prog 73 #[.slice a len cap, .int .i64 m] w fun e w' => e = .returned (.func (.func 85) #[] #[.pointer (some ⟨w.heap.size, 0, none⟩), .pointer (some ⟨w.heap.size + 1, 0, none⟩)]) ∧ w' = (w.alloc (.cells #[.slice a len cap] 45)).alloc (.cells #[.int .i64 m] 3) := by
  refine callsIn_of_wp Try.func73 rfl h5 ?_ hro
  simp only [Try.ntmps73, List.size_toArray, List.length_cons, List.length_nil, Nat.reduceAdd, Nat.reduceSub, Array.replicate_succ, Array.replicate_zero, List.push_toArray, List.append_toArray, List.nil_append, List.cons_append]
  have h1 : ¬ (m : Int) < 1 := by omega
  gi_wp2
  go_ret
  exact ⟨rfl, rfl⟩
theorem slices_Chunk_Lint64_int64.stops (F : Fence) (n : Nat) (h8 : F.fn 85) (hro : F.round = none) (hn : 1 ≤ n) (Bs Bn n₀ : Nat) (A0 : Option Addr) (c0 len m : Nat) (hm : 1 ≤ m) (hm8 : m ≤ 1000) (hlen : len ≤ 1000) (hc0 : len ≤ c0) (hR : 0 < len → ∃ ad, A0 = some ad) (w : World) (hBs : Bs < w.heap.size) (hBn : Bn < w.heap.size)
    (hc : w.cell? ⟨Bs, 0, none⟩ = some (.slice A0 len c0)) (hd : w.cell? ⟨Bn, 0, none⟩ = some (.int .i64 m)) :
    SeqStopsK F n Try.prog 85 #[.pointer (some ⟨Bs, 0, none⟩), .pointer (some ⟨Bn, 0, none⟩)] (fun x : Fin (slices_Chunk_Lint64_int64.num len m) => #[slices_Chunk_Lint64_int64.arg A0 len m x.1]) (slices_Chunk_Lint64_int64.Kp n₀ Bs Bn) (fun ys => ys = slices_Chunk_Lint64_int64.chs _ _ (Nat.le_refl _))
      (fun pre => ∃ k h, pre = slices_Chunk_Lint64_int64.chs _ k h) (slices_Chunk_Lint64_int64.num len m) w := fun l J Jx W hW hA _ hY h0 => by
  exact slices_Chunk_Lint64_int64.body_in F n h8 hro hn l Bs Bn n₀ A0 c0 len m hm hm8 hlen hc0 _ (fun k => slices_Chunk_Lint64_int64.num_lt hm) J Jx (fun pre W k hp => hA pre W _ none hp ⟨rfl, rfl, rfl, Nat.le_refl _, fun _ _ _ => rfl⟩ (fun r e => by cases e)) hY W ((hW.cell (p := ⟨Bs, 0, none⟩) hBs).trans hc) ((hW.cell (p := ⟨Bn, 0, none⟩) hBn).trans hd) hR h0
end Go.Proofs.Ytpcchfklmcalaaa.P

namespace Go.Proofs.Ytpcchfklmcalaaa.P
open Go.RowKit Go.Proofs.YtpcchfklmcalaaaW.PrintWords Go.Proofs.YtpcchfklmcalaaaW.PrintLast Go.Proofs.YtpcchfklmcalaaaW.PrintMore
attribute [local go_sem] max2_int min2_int max_two min_two max_three min_three max_four min_four
set_option linter.unusedVariables false
set_option linter.unusedSimpArgs false
def slices_Min_int64_int64.l0 : Nat → List Int → Int → Int → Option (Int)
  | 0, _, _, _ => none
  | k + 1, x0, x3, x4 => if x4 < (x0.length : Int) then (if 0 ≤ x4 then (slices_Min_int64_int64.l0 k x0 (mn x3 (rd x0 x4)) (wrap64 (x4 + 1))) else (none)) else (some x3)
def slices_Min_int64_int64.f (k : Nat) (l0 : List Int) : Option (Int) := if (l0.length : Int) < 1 then (none) else (if 0 < (l0.length : Int) then (slices_Min_int64_int64.l0 k l0 (rd l0 0) 1) else (none))
set_option maxHeartbeats 8000000 in
set_option maxRecDepth 100000 in
theorem slices_Min_int64_int64.calls (k : Nat) (A0 : Option Addr) (c0 : Nat) (l0 : List Int) (r : Int) (w : World) (hr0 : Kd.C (Kd.int .i64) w A0 l0.length l0) (hc0 : l0.length ≤ c0) (h : slices_Min_int64_int64.f k l0 = some r) :
    Calls Try.prog 74 #[.slice A0 l0.length c0] w fun e w' => e = .returned (.int .i64 r) ∧ Below w.heap.size w w' := by
  have HR0 := Aside0.mk hr0
  have HC0 := Aside0.mk hc0
  clear hr0 hc0
  have HB := Aside0.mk (Below.refl w.heap.size w)
  have H : (if (l0.length : Int) < 1 then (none) else (if 0 < (l0.length : Int) then (slices_Min_int64_int64.l0 k l0 (rd l0 0) 1) else (none))) = some r := h
  clear h
  by_cases c2 : (l0.length : Int) < 1
  rotate_left
  · rw [if_neg c2] at H
    have c2b0 : decide ((l0.length : Int) < 1) = false := decide_eq_false c2
    have c2b1 : decide (l0.length < 1) = false := decide_eq_false (by omega)
    clear c2
    by_cases c3 : 0 < (l0.length : Int)
    rotate_left
    · rw [if_neg c3] at H
      exact absurd H (by simp)
    rw [if_pos c3] at H
    have c3b0 : decide (0 < (l0.length : Int)) = true := decide_eq_true c3
    have c3b1 : decide (0 < l0.length) = true := decide_eq_true (by omega)
    clear c3
    have H' := Aside0.mk H
    clear H
    have p556 : 0 ≤ (0 : Int) := (by omega)
    have q556 : 0 < (l0.length : Int) := of_decide_eq_true (by first | (with_reducible assumption) | assumption)
    obtain ⟨ad556, e556, hx556_0⟩ := Kd.at_int HR0.out 0 p556 q556
    cases e556
    have qi556 : (0 < l0.length) = True := eq_true (by omega)
    (try rw [show ((0 : Int)).toNat = 0 from rfl] at hx556_0)
    (try rw [Addr.add_zero'] at hx556_0)
    replace p556 := eq_true p556
    replace q556 := eq_true q556
    go_enter Try.func74, Try.ntmps74
    go_wp2
    go_loopg [3, 4] k (fun kq v3 v4 w' => ∃ (x3_1 : Int) (x4_1 : Int), v3 = .int .i64 x3_1 ∧ v4 = .int .i64 x4_1 ∧ Aside0 (slices_Min_int64_int64.l0 kq l0 x3_1 x4_1 = some r) ∧ Aside0 (kq ≤ k) ∧ Aside0 (Below w.heap.size w w'))
    case atStart => exact ⟨(rd l0 0), (1), (by first | rfl | (simp; done) | (simp [*]; done)), (by first | rfl | (simp; done) | (simp [*]; done)), H', ⟨Nat.le_refl _⟩, ⟨by repeat (first | (with_reducible first | exact HB.out | apply below_alloc | apply pw_below_drewN | apply below_drew1) | exact HB.out)⟩⟩
    case round =>
      clear H'
      try clear c2
      try clear c2b0
      try clear c2b1
      try clear p2
      try clear c3
      try clear c3b0
      try clear c3b1
      try clear hx556_0
      try clear p556
      try clear q556
      obtain ⟨x3_1, x4_1, rfl, rfl, HA, HK1, HB⟩ := hrel
      cases gk with
      | zero => exact absurd HA.out (by simp [slices_Min_int64_int64.l0])
      | succ k1 =>
        have H := HA.out
        clear HA
        simp only [slices_Min_int64_int64.l0] at H
        by_cases c4 : x4_1 < (l0.length : Int)
        rotate_left
        · rw [if_neg c4] at H
          have c4b0 : decide (x4_1 < (l0.length : Int)) = false := decide_eq_false c4
          clear c4
          obtain rfl := Option.some.inj H
          go_wp2
          go_ret
          exact ⟨by first | rfl | (simp [errW_none, errW_some] <;> rfl) | (simp [*, errW_none, errW_some] <;> rfl), by repeat (first | (with_reducible first | exact HB.out | apply below_alloc | apply pw_below_drewN | apply below_drew1) | exact HB.out)⟩
        rw [if_pos c4] at H
        have c4b0 : decide (x4_1 < (l0.length : Int)) = true := decide_eq_true c4
        clear c4
        by_cases c5 : 0 ≤ x4_1
        rotate_left
        · rw [if_neg c5] at H
          exact absurd H (by simp)
        rw [if_pos c5] at H
        have c5b0 : decide (0 ≤ x4_1) = true := decide_eq_true c5
        clear c5
        obtain ⟨ji6, hji6⟩ : ∃ j_ : Int, (mn x3_1 (rd l0 x4_1)) = j_ := ⟨_, rfl⟩
        replace H : (slices_Min_int64_int64.l0 k1 l0 ji6 (wrap64 (x4_1 + 1))) = some r := by first | (rw [hji6] at H; exact H) | (simp only [hji6] at H ⊢; exact H)
        have hji6_ : (if (rd l0 x4_1) < x3_1 then (rd l0 x4_1) else x3_1) = ji6 := hji6
        have H' := Aside0.mk H
        clear H
        have p557 : 0 ≤ (x4_1 : Int) := of_decide_eq_true (by first | (with_reducible assumption) | assumption)
        have q557 : x4_1 < (l0.length : Int) := of_decide_eq_true (by first | (with_reducible assumption) | assumption)
        obtain ⟨ad557, e557, hx557_0⟩ := Kd.at_int HR0.out x4_1 p557 q557
        obtain rfl : ad556 = ad557 := (by injection e557)
        replace hx557_0 := (HB.out.cell (World.block_lt_of_cell? w _ hx557_0)).trans hx557_0
        replace p557 := eq_true p557
        replace q557 := eq_true q557
        go_wp2
        go_roundg k1
        case measure => have := HK1.out; omega
        case rel => exact ⟨(ji6), (wrap64 (x4_1 + 1)), (by first | rfl | (simp; done) | (simp only [← hji6] <;> (first | rfl | simp)) | (simp [*]; done)), (by first | rfl | (simp; done) | (simp [*]; done)), H', ⟨by have := HK1.out; omega⟩, ⟨by repeat (first | (with_reducible first | exact HB.out | apply below_alloc | apply pw_below_drewN | apply below_drew1) | exact HB.out)⟩⟩
  rw [if_pos c2] at H
  exact absurd H (by simp)
end Go.Proofs.Ytpcchfklmcalaaa.P

namespace Go.Proofs.Ytpcchfklmcalaaa.P
open Go.RowKit Go.Proofs.YtpcchfklmcalaaaW.PrintWords Go.Proofs.YtpcchfklmcalaaaW.PrintLast Go.Proofs.YtpcchfklmcalaaaW.PrintMore
attribute [local go_sem] max2_int min2_int max_two min_two max_three min_three max_four min_four
set_option linter.unusedVariables false
set_option linter.unusedSimpArgs false
-- IMPORT Derived.RangeFuncNested
-- IMPORT Derived.RangeFuncBound
-- IMPORT Derived.RangeFuncCalls
-- IMPORT Derived.RangeFuncLeaves
-- IMPORT Derived.RangeFuncBox
-- IMPORT Derived.Shelf.RegionOpen
-- IMPORT Derived.OwnWalkIn
-- IMPORT Derived.TacticsInMore
-- IMPORT Derived.LoopNIn
-- IMPORT Derived.LoopIn
open Go.Shelf
attribute [local go_sem] Oper.semAt_some
def impl_FreeOf.piece (l : List Int) (m x : Nat) : List Int := (l.drop (x * m)).take (min m (l.length - x * m))
def impl_FreeOf.add (k : Nat) (l : List Int) (m : Nat) (s : Option Int) (x : Nat) : Option Int := s.bind fun a =>
  if (impl_FreeOf.piece l m x).length = m then (slices_Min_int64_int64.f k (impl_FreeOf.piece l m x)).bind fun b => some (wrap64 (a + b)) else some a
def impl_FreeOf.run (k : Nat) (l : List Int) (m : Nat) : Nat → Option Int
  | 0 => some 0
  | x + 1 => impl_FreeOf.add k l m (impl_FreeOf.run k l m x) x
def impl_FreeOf.f (k : Nat) (l0 : List Int) (a1 : Int) : Option (Int × Int) :=
  (impl_within.f a1 2 8).bind fun t => if t = true then ((impl_areWithin.f l0 0 10000).bind fun u => if u = true then (if (l0.length : Int) > 100 then some (0, 3) else (if 1 ≤ a1 then (if a1 ≤ 8 then (impl_FreeOf.run k l0 a1.toNat (slices_Chunk_Lint64_int64.num l0.length a1.toNat)).bind fun s => some (s, 0) else none) else none)) else some (0, 2)) else some (0, 2)
def impl_FreeOf.st (k : Nat) (l : List Int) (m : Nat) {n : Nat} (pre : List (Fin n)) : Option Int := pre.foldl (fun s x => impl_FreeOf.add k l m s x.1) (some 0)
theorem impl_FreeOf.st_snoc (k : Nat) (l : List Int) (m : Nat) {n : Nat} (pre : List (Fin n)) (x : Fin n) : impl_FreeOf.st k l m (pre ++ [x]) = impl_FreeOf.add k l m (impl_FreeOf.st k l m pre) x.1 := by simp [impl_FreeOf.st]
theorem impl_FreeOf.st_chs (k : Nat) (l : List Int) (m n : Nat) : ∀ j h, impl_FreeOf.st k l m (slices_Chunk_Lint64_int64.chs n j h) = impl_FreeOf.run k l m j
  | 0, _ => rfl
  | j + 1, h => by rw [slices_Chunk_Lint64_int64.chs, impl_FreeOf.st_snoc, impl_FreeOf.st_chs k l m n j]; rfl
theorem impl_FreeOf.mins {k : Nat} {l : List Int} {m : Nat} : ∀ {n : Nat} {s : Int}, impl_FreeOf.run k l m n = some s → ∀ x, x < n → (impl_FreeOf.piece l m x).length = m → ∃ b, slices_Min_int64_int64.f k (impl_FreeOf.piece l m x) = some b
  | 0, _, _, _, hx, _ => absurd hx (Nat.not_lt_zero _)
  | n + 1, s, h, x, hx, hl => by
    rw [impl_FreeOf.run, impl_FreeOf.add] at h
    obtain ⟨a, h1, h2⟩ := Option.bind_eq_some_iff.mp h
    by_cases e : x = n
    rotate_left
    · exact impl_FreeOf.mins h1 x (by omega) hl
    subst e
    rw [if_pos hl] at h2
    obtain ⟨b, h3, _⟩ := Option.bind_eq_some_iff.mp h2
    exact ⟨b, h3⟩
theorem impl_FreeOf.piece_len (l : List Int) (m x : Nat) : (impl_FreeOf.piece l m x).length = min m (l.length - x * m) := by simp [impl_FreeOf.piece]
theorem impl_FreeOf.frozen {w : World} {g : Nat} {t : TypeId} {cs : Array Value} (h : w.heap[g]? = some (.cells cs t (0, 0))) (i : Nat) : w.frozen? ⟨g, i, none⟩ = false := by simp [World.frozen?, h]
theorem impl_FreeOf.blk_own {β : Type} (B : Nat) (t : TypeId) (f : β → Array Value) : Own (fun s W => W.heap[B]? = some (.cells (f s) t (0, 0))) := fun s X Y row hs hg hrow =>
  (hg.block B (Array.getElem?_eq_some_iff.1 hs).1 (fun e' => by obtain ⟨o, ho, hc⟩ := hrow B e'.symm; rw [hs] at ho; cases ho; cases hc)).trans hs
theorem impl_FreeOf.three (w W : World) (o1 o2 o3 : Obj) (h : W = ((w.alloc o1).alloc o2).alloc o3) : W.heap[w.heap.size]? = some o1 ∧ W.heap[w.heap.size + 1]? = some o2 ∧ W.heap[w.heap.size + 1 + 1]? = some o3 ∧ W.heap.size = w.heap.size + 3 ∧ Below w.heap.size w W := by
  subst h
  have e1 : (w.alloc o1).heap.size = w.heap.size + 1 := World.size_alloc ..
  have e2 : ((w.alloc o1).alloc o2).heap.size = w.heap.size + 1 + 1 := by rw [World.size_alloc, e1]
  have b1 := below_alloc (Below.refl _ (w.alloc o1)) o2
  have b2 := below_alloc (Below.refl _ ((w.alloc o1).alloc o2)) o3
  refine ⟨(b2.block _ (by omega)).trans ((b1.block _ (by omega)).trans (blk_new w o1)), (b2.block _ (by omega)).trans (by have := blk_new (w.alloc o1) o2; rwa [e1] at this), by have := blk_new ((w.alloc o1).alloc o2) o3; rwa [e2] at this, by rw [World.size_alloc, e2], below_alloc (below_alloc (below_alloc (Below.refl _ w) _) _) _⟩
theorem impl_FreeOf.piece_C {w : World} {ad : Addr} {l : List Int} (hr : Kd.C (Kd.int .i64) w (some ad) l.length l) (m x : Nat) (hx : x * m ≤ l.length) : Kd.C (Kd.int .i64) w (some (ad.add (x * m))) (impl_FreeOf.piece l m x).length (impl_FreeOf.piece l m x) := by
  have h := Kd.C_take (m := min m (l.length - x * m)) (Kd.C_drop (m := x * m) (c := l.length + 1) hr hx (by omega)) (by rw [List.length_drop]; exact Nat.min_le_right _ _)
  rw [if_neg (by omega), Option.map_some, show x * m * (Kd.int .i64).sz = x * m from Nat.mul_one _] at h
  exact h
set_option maxHeartbeats 8000000 in
set_option maxRecDepth 100000 in
theorem impl_FreeOf.calls (k : Nat) (A0 : Option Addr) (c0 : Nat) (l0 : List Int) (a1 : Int) (r1 : Int) (r2 : Int) (w : World) (hr0 : Kd.C (Kd.int .i64) w A0 l0.length l0) (hc0 : l0.length ≤ c0) (h : impl_FreeOf.f k l0 a1 = some (r1, r2)) :
    Calls Try.prog 35 #[.slice A0 l0.length c0, .int .i64 a1] w fun e w' => e = .returned (.tuple #[.int .i64 r1, .int .i64 r2]) ∧ Below w.heap.size w w' := by
  unfold impl_FreeOf.f at h
  obtain ⟨t, h1, h⟩ := Option.bind_eq_some_iff.mp h
  obtain ⟨W1, hW1⟩ : ∃ W1, W1 = w.alloc (.cells #[.int .i64 a1] 2) := ⟨_, rfl⟩
  have hB1 : Below w.heap.size w W1 := by rw [hW1]; exact below_alloc (Below.refl _ _) _
  have hsz1 : W1.heap.size = w.heap.size + 1 := by rw [hW1, World.size_alloc]
  have hx3 : W1.cell? ⟨w.heap.size, 0, none⟩ = some (.int .i64 a1) := by rw [hW1]; exact (blk_cell (blk_new w _) 0).trans rfl
  have CW := fun W => impl_within.calls a1 2 8 t W h1
  have HR0 := Aside0.mk hr0
  have HC0 := Aside0.mk hc0
  have HB1 := Aside0.mk hB1
  have HS1 := Aside0.mk hsz1
  clear h1 hr0 hc0 hB1 hsz1
  refine (callsIn_wide (n := 5)).1 ?_
  refine callsIn_of_wp_marks Try.func35 rfl trivial ?_ rfl
  have hF1 : Fence.wide.fn 43 := trivial
  have hF2 : Fence.wide.fn 45 := trivial
  have hF3 : Fence.wide.fn 73 := trivial
  have hF4 : Fence.wide.fn 44 := trivial
  have hF5 : Fence.wide.fn 74 := trivial
  simp only [Try.ntmps35, List.size_toArray, List.length_cons, List.length_nil, Nat.reduceAdd, Nat.reduceSub, Array.replicate_succ, Array.replicate_zero, List.push_toArray, List.append_toArray, List.nil_append, List.cons_append]
  cases t with
  | false =>
    rw [if_neg (by decide)] at h
    cases h
    rw [hW1] at hx3
    gi_wp2_with (gi_at_call 43; refine (callsIn_wide.2 (CW _)).mono ?_; rintro e w' ⟨rfl, ⟨nd, rfl⟩⟩)
    exact ⟨.tuple #[.int .i64 0, .int .i64 2], by simp [results, Try.f35, go_sem], rfl, by rw [← hW1]; exact pw_below_drewN HB1.out nd⟩
  | true =>
    rw [if_pos rfl] at h
    obtain ⟨u, h2, h⟩ := Option.bind_eq_some_iff.mp h
    have CA := fun W (hB : Below w.heap.size w W) => impl_areWithin.calls A0 c0 l0 0 10000 u W (Kd.C_below HR0.out hB) HC0.out h2
    clear h2
    cases u with
    | false =>
      rw [if_neg (by decide)] at h
      cases h
      have HBD := fun nd => Aside0.mk (pw_below_drewN HB1.out nd)
      rw [hW1] at hx3 HBD
      gi_wp2_with (first | (gi_at_call 43; refine (callsIn_wide.2 (CW _)).mono ?_; rintro e w' ⟨rfl, ⟨nd, rfl⟩⟩) | (gi_at_call 45; refine (callsIn_wide.2 (CA _ (HBD nd).out)).mono ?_; rintro e w2 ⟨rfl, hb⟩; have HB2 := Aside0.mk (below_step (HBD nd).out hb); clear hb))
      exact ⟨.tuple #[.int .i64 0, .int .i64 2], by simp [results, Try.f35, go_sem], rfl, HB2.out⟩
    | true =>
      rw [if_pos rfl] at h
      by_cases hlen : (l0.length : Int) > 100
      rotate_left
      · rw [if_neg hlen] at h
        split at h
        case isFalse => cases h
        case isTrue g1 =>
        split at h
        case isFalse => cases h
        case isTrue g2 =>
        obtain ⟨m, rfl⟩ := Int.eq_ofNat_of_zero_le (show 0 ≤ a1 by omega)
        rw [Int.toNat_natCast] at h
        obtain ⟨s, h3, h⟩ := Option.bind_eq_some_iff.mp h
        cases h
        have H3 := Aside0.mk h3
        have HMIN := Aside0.mk (@impl_FreeOf.mins k l0 m _ _ h3)
        have HM1 := Aside0.mk (show 1 ≤ m by omega)
        have HM8 := Aside0.mk (show m ≤ 1000 by omega)
        have HLEN := Aside0.mk (show l0.length ≤ 1000 by omega)
        have hlen' : ¬ 100 < (l0.length : Int) := hlen
        have HBD := fun nd => Aside0.mk (pw_below_drewN HB1.out nd)
        have HMK := fun (W : World) => slices_Chunk_Lint64_int64.make_in Fence.wide 4 trivial rfl A0 l0.length c0 m HM1.out W
        clear h3 g1 g2
        rw [hW1] at hx3 HBD
        have HX3 := fun nd => Aside0.mk (show ((w.alloc (.cells #[.int .i64 (m : Int)] 2)).drewN nd).cell? ⟨w.heap.size, 0, none⟩ = some (.int .i64 (m : Int)) from hx3)
        gi_wp2_with (first | (gi_at_call 43; refine (callsIn_wide.2 (CW _)).mono ?_; rintro e w' ⟨rfl, ⟨nd, rfl⟩⟩) | (gi_at_call 45; refine (callsIn_wide.2 (CA _ (HBD nd).out)).mono ?_; rintro e w2 ⟨rfl, hb⟩; have HB2 := Aside0.mk (below_step (HBD nd).out hb); have hy3 := pw_cell_below hb (HX3 nd).out; have HSZ2 := Aside0.mk (show w.heap.size < w2.heap.size from World.block_lt_of_cell? w2 _ hy3); have hblk := blk_new w2 (.cells #[.int .i64 0] 2); have hcz : (w2.alloc (.cells #[.int .i64 0] 2)).cell? ⟨w2.heap.size, 0, none⟩ = some (.int .i64 0) := (blk_cell hblk 0).trans rfl; have hfz : (w2.alloc (.cells #[.int .i64 0] 2)).frozen? ⟨w2.heap.size, 0, none⟩ = false := impl_FreeOf.frozen hblk 0; have hy5 : (w2.alloc (.cells #[.int .i64 0] 2)).cell? ⟨w.heap.size, 0, none⟩ = some (.int .i64 (m : Int)) := ((below_alloc (Below.refl _ w2) _).cell (p := ⟨w.heap.size, 0, none⟩) HSZ2.out).trans hy3; clear hb hblk) | (gi_at_call 73; refine (HMK _).mono ?_; rintro e w6 ⟨rfl, rfl⟩))
        obtain ⟨W5, hW5⟩ : ∃ W, W = (((w2.alloc (.cells #[.int .i64 0] 2)).alloc (.cells #[.slice A0 l0.length c0] 45)).alloc (.cells #[.int .i64 (m : Int)] 3)) := ⟨_, rfl⟩
        rw [← hW5]
        obtain ⟨g6, gs, gn, hsz5, hB25⟩ := impl_FreeOf.three w2 W5 _ _ _ hW5
        have hm5 : W5.cell? ⟨w.heap.size, 0, none⟩ = some (.int .i64 (m : Int)) := (hB25.cell (p := ⟨w.heap.size, 0, none⟩) HSZ2.out).trans hy3
        have hB5 : Below w.heap.size w W5 := below_step HB2.out hB25
        have hRA : 0 < l0.length → ∃ ad, A0 = some ad := fun hp => by obtain ⟨ad, e_, _⟩ := (Kd.reads_of_C (d := (0 : Int)) HR0.out).2.2 hp; exact ⟨ad, e_⟩
        have ST := slices_Chunk_Lint64_int64.stops Fence.wide 4 trivial rfl (by omega) (w2.heap.size + 1) (w2.heap.size + 1 + 1) w.heap.size A0 c0 l0.length m HM1.out HM8.out HLEN.out HC0.out hRA W5 (by omega) (by omega) ((blk_cell gs 0).trans rfl) ((blk_cell gn 0).trans rfl)
        have HRA := Aside0.mk hRA
        obtain ⟨n, hn⟩ : ∃ n, n = slices_Chunk_Lint64_int64.num l0.length m := ⟨_, rfl⟩
        rw [← hn] at ST
        have HN := Aside0.mk hn
        have H3' := Aside0.mk (show impl_FreeOf.run k l0 m n = some r1 from by rw [hn]; exact H3.out)
        clear hn
        obtain ⟨g, hg⟩ : ∃ g : Fin n → Value, ∀ x, slices_Chunk_Lint64_int64.arg A0 l0.length m x.1 = g x := ⟨fun x => slices_Chunk_Lint64_int64.arg A0 l0.length m x.1, fun _ => rfl⟩
        simp only [hg] at ST
        have HG := Aside0.mk hg
        clear hg hW5 hcz hfz hy3 hy5 hRA HMK gs gn CW CA
        refine wpIn_rangeFunc_ownF rfl (by omega) (gf := 85) (lb := #[.pointer (some ⟨w2.heap.size + 1, 0, none⟩), .pointer (some ⟨w2.heap.size + 1 + 1, 0, none⟩)]) rfl trivial (enters_of Try.func85 (by kernel_rfl) rfl)
          ST slices_Chunk_Lint64_int64.Kp_t (slices_Chunk_Lint64_int64.Kp_b hB5.size (by omega) (by omega)) (Below.refl _ _) (fun _ => rfl)
          (fun pre W => (∃ a, impl_FreeOf.st k l0 m pre = some a ∧ W.heap[w2.heap.size]? = some (.cells #[.int .i64 a] 2 (0, 0)) ∧ W.cell? ⟨w.heap.size, 0, none⟩ = some (.int .i64 (m : Int)) ∧ w2.heap.size + 3 ≤ W.heap.size) ∧ Below w.heap.size w W)
          (fun _ _ _ => False)
          (OwnFrom.and (Own.from (fun s A B row hs hg hr => by obtain ⟨a, h1, h2, h3, h4⟩ := hs; exact ⟨a, h1, impl_FreeOf.blk_own (β := Unit) _ _ (fun _ => #[.int .i64 a]) () A B row h2 hg hr, cell_kept h3 hg hr, Nat.le_trans h4 hg.size⟩) _) (ownFrom_below (Nat.le_refl _) hB5.size))
          (fun _ _ _ _ _ hs _ _ => hs)
          ⟨⟨0, rfl, g6, hm5, by omega⟩, hB5⟩
          (fun x => { tmps := #[.slice A0 l0.length c0, .int .i64 (m : Int), undef, .pointer (some ⟨w.heap.size, 0, none⟩), .int .i64 0, .int .i64 0, .pointer (some ⟨w2.heap.size, 0, none⟩), g x, .bool false, .int .i64 (m : Int), .bool true, .bool false, .bool false, .slice A0 l0.length c0, .bool true, .bool false, .bool false, .bool (decide (100 < (l0.length : Int))), .slice A0 l0.length c0, .int .i64 (l0.length : Int), .bool (decide (100 < (l0.length : Int))), .slice A0 l0.length c0, .int .i64 (m : Int), .func (.func 85) #[] #[.pointer (some ⟨w2.heap.size + 1, 0, none⟩), .pointer (some ⟨w2.heap.size + 1 + 1, 0, none⟩)], g x, undef, undef, undef, undef, undef, undef, undef, undef, undef], defers := [] }) ?assign ?body ?done ?stop
        case assign =>
          intro l x W K hK
          gi_wp2
          exact hK
        case body =>
          rintro l pre x W ⟨⟨a, hst, hblk, hm3, hszw⟩, hBW⟩ _
          have HSZW := Aside0.mk hszw
          clear hszw
          have hc6 : W.cell? ⟨w2.heap.size, 0, none⟩ = some (.int .i64 a) := (blk_cell hblk 0).trans rfl
          have hf6 := impl_FreeOf.frozen hblk 0
          have hxm : x.1 * m < l0.length := (slices_Chunk_Lint64_int64.num_lt HM1.out).1 (by rw [← HN.out]; exact x.2)
          obtain ⟨ad, eA⟩ := HRA.out (by omega)
          have hgx := HG.out x
          unfold slices_Chunk_Lint64_int64.arg at hgx
          rw [eA, Option.map_some, ← impl_FreeOf.piece_len] at hgx
          have CPC := fun (W' : World) (hb : Below w.heap.size w W') => impl_FreeOf.piece_C (w := W') (ad := ad) (l := l0) (by have := Kd.C_below HR0.out hb; rwa [eA] at this) m x.1 (by omega)
          have CSZ := fun (W' : World) (hb : Below w.heap.size w W') => impl_size_int64.calls (some (ad.add (x.1 * m))) (impl_FreeOf.piece l0 m x.1).length (impl_FreeOf.piece l0 m x.1) ((impl_FreeOf.piece l0 m x.1).length : Int) W' (CPC W' hb) (Nat.le_refl _) rfl
          have hadd : impl_FreeOf.st k l0 m (pre ++ [x]) = impl_FreeOf.add k l0 m (some a) x.1 := by rw [impl_FreeOf.st_snoc, hst]
          rw [← hgx]
          have HBW := Aside0.mk hBW
          have HBLK := Aside0.mk hblk
          have HM3 := Aside0.mk hm3
          have hlt6 : w2.heap.size < W.heap.size := (Array.getElem?_eq_some_iff.1 hblk).1
          have HLT6 := Aside0.mk hlt6
          have HX := Aside0.mk hxm
          have HXN := Aside0.mk (show x.1 < slices_Chunk_Lint64_int64.num l0.length m from by rw [← HN.out]; exact x.2)
          have HHL : ∀ q, q = (impl_FreeOf.piece l0 m x.1).length → (q = m → ∃ b, slices_Min_int64_int64.f k (impl_FreeOf.piece l0 m x.1) = some b ∧ impl_FreeOf.st k l0 m (pre ++ [x]) = some (wrap64 (a + b))) ∧ (q ≠ m → impl_FreeOf.st k l0 m (pre ++ [x]) = some a) := fun q hq => ⟨fun e_ => by
            obtain ⟨b, hb⟩ := HMIN.out x.1 HXN.out (by omega)
            exact ⟨b, hb, by rw [hadd, impl_FreeOf.add, Option.bind_some, if_pos (by omega), hb]; rfl⟩, fun e_ => by rw [hadd, impl_FreeOf.add, Option.bind_some, if_neg (by omega)]⟩
          have CMIN := fun (b : Int) (hb : slices_Min_int64_int64.f k (impl_FreeOf.piece l0 m x.1) = some b) (W' : World) (hb' : Below w.heap.size w W') => slices_Min_int64_int64.calls k (some (ad.add (x.1 * m))) (impl_FreeOf.piece l0 m x.1).length (impl_FreeOf.piece l0 m x.1) b W' (CPC W' hb') (Nat.le_refl _) hb
          clear hgx hadd CPC hblk hBW hlt6 hxm
          obtain ⟨q, hq⟩ : ∃ q, q = (impl_FreeOf.piece l0 m x.1).length := ⟨_, rfl⟩
          have HQ := HHL q hq
          rw [← hq] at CSZ CMIN
          rw [← hq]
          clear HHL hq
          generalize ad.add (x.1 * m) = ad2 at CSZ CMIN ⊢
          have hmo : Try.prog.follows .mixedOrders = true := by kernel_rfl
          by_cases hl : q = m
          rotate_left
          · have hst2 := HQ.2 hl
            have hne : ¬ (q : Int) = (m : Int) := by omega
            have hne2 : ((q : Int) == (m : Int)) = false := beq_eq_false_iff_ne.mpr hne
            have HST2 := Aside0.mk hst2
            clear hst2 HQ CMIN
            gi_wp2
            gi_region_with_o (gi_at_call 44; refine (CallsIn.inRound l (callsIn_wide.2 (CSZ _ (by repeat (first | exact HBW.out | apply below_alloc | apply pw_below_drewN | apply below_drew1))))).mono ?_; rintro e w' ⟨rfl, ⟨nd, rfl⟩⟩)
            all_goals gi_wp2
            all_goals exact ⟨⟨Nat.le_refl _, fun _ _ h _ => h⟩, ⟨pw_below_drewN (Below.refl _ _) _, rfl, rfl⟩, ⟨a, HST2.out, HBLK.out, HM3.out, HSZW.out⟩, pw_below_drewN HBW.out _⟩
          subst hl
          obtain ⟨b, hb, hst2⟩ := HQ.1 rfl
          have CM := CMIN b hb
          have HST2 := Aside0.mk hst2
          clear hb hst2 HQ CMIN
          gi_wp2
          gi_region_with_o (gi_at_call 44; refine (CallsIn.inRound l (callsIn_wide.2 (CSZ _ (by repeat (first | exact HBW.out | apply below_alloc | apply pw_below_drewN | apply below_drew1))))).mono ?_; rintro e w' ⟨rfl, ⟨nd, rfl⟩⟩)
          all_goals
            have hc6d : (World.drewN W (1 + nd)).cell? ⟨w2.heap.size, 0, none⟩ = some (.int .i64 a) := hc6
            have hf6d : (World.drewN W (1 + nd)).frozen? ⟨w2.heap.size, 0, none⟩ = false := hf6
          all_goals gi_wp2
          all_goals gi_region_with_o (gi_at_call 74; refine (CallsIn.inRound l (callsIn_wide.2 (CM _ (by repeat (first | exact HBW.out | apply below_alloc | apply pw_below_drewN | apply below_drew1))))).mono ?_; rintro e w7 ⟨rfl, hb7⟩; have hb7' := below_step (show Below W.heap.size W _ from by repeat (first | exact Below.refl _ _ | apply pw_below_drewN | apply below_drew1)) hb7; have hblk7 := (hb7'.block _ HLT6.out).trans HBLK.out; have hc7 : w7.cell? ⟨w2.heap.size, 0, none⟩ = some (.int .i64 a) := (blk_cell hblk7 0).trans rfl; have hf7 := impl_FreeOf.frozen hblk7 0; have HB7 := Aside0.mk hb7'; have HBLK7 := Aside0.mk hblk7; clear hb7 hb7' hblk7)
          all_goals gi_wp2
          all_goals
            rw [i64_w]
            have hle6 : w.heap.size ≤ w2.heap.size := Nat.le_of_lt HSZ2.out
            have hfar : ∀ b', b' ≠ w2.heap.size → b' < W.heap.size → (w7.setCell ⟨w2.heap.size, 0, none⟩ (.int .i64 (wrap64 (a + b)))).cell? ⟨b', 0, none⟩ = W.cell? ⟨b', 0, none⟩ := fun b' h1 h2 => (World.cell?_of_block (Below.heap_setCell w7 ⟨w2.heap.size, 0, none⟩ _ b' h1)).trans (HB7.out.cell (p := ⟨b', 0, none⟩) h2)
            have hs3 := HSZW.out
            exact ⟨(show KeepsOthers W w7 from ⟨HB7.out.size, fun i o h _ => (HB7.out.block i (Array.getElem?_eq_some_iff.1 h).1).trans h⟩).trans (KeepsOthers.setCell _ _ _),
              ⟨(HB7.out.mono HBW.out.size).setCell hle6 _, hfar _ (by omega) (by omega), hfar _ (by omega) (by omega)⟩,
              ⟨wrap64 (a + b), HST2.out, blk_put HBLK7.out 0 _ rfl, (hfar _ (Nat.ne_of_lt HSZ2.out) (Nat.lt_trans HSZ2.out HLT6.out)).trans HM3.out, by have := HB7.out.size; simp; omega⟩, (below_step HBW.out HB7.out).setCell hle6 _⟩
        case done =>
          rintro D ys W hD rfl ⟨⟨a, hst, hblk, hm3, _⟩, hBW⟩ hK
          rw [impl_FreeOf.st_chs, H3'.out] at hst
          cases hst
          have hc6 : W.cell? ⟨w2.heap.size, 0, none⟩ = some (.int .i64 r1) := (blk_cell hblk 0).trans rfl
          have HBW := Aside0.mk hBW
          clear hblk hBW
          gi_wp2
          refine ⟨by simp, .inl ⟨_, _, rfl, run_takeDeferred hK, ?_⟩⟩
          exact ⟨.tuple #[.int .i64 r1, .int .i64 0], by simp [results, Try.f35, go_sem], rfl, HBW.out.trans (belowK_b (w := w) (Nat.le_refl _) _ D _ _ (Nat.le_trans hB5.size hD) hK rfl rfl)⟩
        case stop =>
          rintro D c pre W _ _ h _
          exact h.elim
      rw [if_pos hlen] at h
      cases h
      have hlen' : 100 < (l0.length : Int) := hlen
      have HBD := fun nd => Aside0.mk (pw_below_drewN HB1.out nd)
      rw [hW1] at hx3 HBD
      gi_wp2_with (first | (gi_at_call 43; refine (callsIn_wide.2 (CW _)).mono ?_; rintro e w' ⟨rfl, ⟨nd, rfl⟩⟩) | (gi_at_call 45; refine (callsIn_wide.2 (CA _ (HBD nd).out)).mono ?_; rintro e w2 ⟨rfl, hb⟩; have HB2 := Aside0.mk (below_step (HBD nd).out hb); clear hb))
      exact ⟨.tuple #[.int .i64 0, .int .i64 3], by simp [results, Try.f35, go_sem], rfl, HB2.out⟩
end Go.Proofs.Ytpcchfklmcalaaa.P

namespace Go.Proofs.Ytpcchfklmcalaaa.P
open Go.RowKit Go.Proofs.YtpcchfklmcalaaaW.PrintWords Go.Proofs.YtpcchfklmcalaaaW.PrintLast Go.Proofs.YtpcchfklmcalaaaW.PrintMore
attribute [local go_sem] max2_int min2_int max_two min_two max_three min_three max_four min_four
set_option linter.unusedVariables false
set_option linter.unusedSimpArgs false
def laws_eqInt64S.l0 : Nat → List Int → List Int → Int → Option (Bool)
  | 0, _, _, _ => none
  | k + 1, x0, x1, x5 => if x5 < (x0.length : Int) then (if 0 ≤ x5 then (if x5 < (x1.length : Int) then (if (rd x0 x5) = (rd x1 x5) then (laws_eqInt64S.l0 k x0 x1 (wrap64 (x5 + 1))) else (some false)) else (none)) else (none)) else (some true)
def laws_eqInt64S.f (k : Nat) (l0 : List Int) (l1 : List Int) : Option (Bool) := if (l0.length : Int) = (l1.length : Int) then (laws_eqInt64S.l0 k l0 l1 0) else (some false)
set_option maxHeartbeats 8000000 in
set_option maxRecDepth 100000 in
theorem laws_eqInt64S.calls (k : Nat) (A0 : Option Addr) (c0 : Nat) (l0 : List Int) (A1 : Option Addr) (c1 : Nat) (l1 : List Int) (r : Bool) (w : World) (hr0 : Kd.C (Kd.int .i64) w A0 l0.length l0) (hc0 : l0.length ≤ c0) (hr1 : Kd.C (Kd.int .i64) w A1 l1.length l1) (hc1 : l1.length ≤ c1) (h : laws_eqInt64S.f k l0 l1 = some r) :
    Calls Try.prog 36 #[.slice A0 l0.length c0, .slice A1 l1.length c1] w fun e w' => e = .returned (.bool r) ∧ Drawn0 w w' := by
  have HR0 := Aside0.mk hr0
  have HC0 := Aside0.mk hc0
  clear hr0 hc0
  have HR1 := Aside0.mk hr1
  have HC1 := Aside0.mk hc1
  clear hr1 hc1
  have H : (if (l0.length : Int) = (l1.length : Int) then (laws_eqInt64S.l0 k l0 l1 0) else (some false)) = some r := h
  clear h
  by_cases c3 : (l0.length : Int) = (l1.length : Int)
  rotate_left
  · rw [if_neg c3] at H
    have c3b0 : ((l0.length : Int) == (l1.length : Int)) = false := beq_eq_false_iff_ne.mpr c3
    have c3b1 : ((l0.length : Int) != (l1.length : Int)) = true := bne_iff_ne.mpr c3
    have c3b2 : (l0.length == l1.length) = false := by first | simpa using c3 | (simp at c3 ⊢; omega)
    obtain rfl := Option.some.inj H
    go_enter Try.func36, Try.ntmps36
    go_wp2
    repeat (go_quiet (fail); try go_wp2)
    go_ret
    exact ⟨by first | rfl | (simp; done) | (simp [*]; done), by repeat (first | exact Drawn0.refl _ | apply Drawn0.step)⟩
  rw [if_pos c3] at H
  have c3b0 : ((l0.length : Int) == (l1.length : Int)) = true := beq_iff_eq.mpr c3
  have c3b1 : ((l0.length : Int) != (l1.length : Int)) = false := bne_eq_false_iff_eq.mpr c3
  have c3b2 : (l0.length == l1.length) = true := by first | simpa using c3 | (simp at c3 ⊢; omega)
  clear c3
  have H' := Aside0.mk H
  clear H
  go_enter Try.func36, Try.ntmps36
  go_wp2
  repeat (go_quiet (fail); try go_wp2)
  go_loopg [5] k (fun kq v5 w' => ∃ (x5_1 : Int), v5 = .int .i64 x5_1 ∧ Aside0 (laws_eqInt64S.l0 kq l0 l1 x5_1 = some r) ∧ Aside0 (kq ≤ k) ∧ Drawn0 w w')
  case atStart => exact ⟨(0), (by first | rfl | (simp; done) | (simp [*]; done)), H', ⟨Nat.le_refl _⟩, by repeat (first | exact Drawn0.refl _ | apply Drawn0.step)⟩
  case round =>
    clear H'
    try clear c1
    try clear p2
    try clear c3
    try clear c3b0
    try clear c3b1
    try clear c3b2
    obtain ⟨x5_1, rfl, HA, HK1, ⟨m1, rfl⟩⟩ := hrel
    cases gk with
    | zero => exact absurd HA.out (by simp [laws_eqInt64S.l0])
    | succ k1 =>
      have H := HA.out
      clear HA
      simp only [laws_eqInt64S.l0] at H
      by_cases c4 : x5_1 < (l0.length : Int)
      rotate_left
      · rw [if_neg c4] at H
        have c4b0 : decide (x5_1 < (l0.length : Int)) = false := decide_eq_false c4
        clear c4
        obtain rfl := Option.some.inj H
        go_wp2
        repeat (go_quiet (fail); try go_wp2)
        go_ret
        exact ⟨by first | rfl | (simp; done) | (simp [*]; done), by repeat (first | exact Drawn0.refl _ | apply Drawn0.step)⟩
      rw [if_pos c4] at H
      have c4b0 : decide (x5_1 < (l0.length : Int)) = true := decide_eq_true c4
      clear c4
      by_cases c5 : 0 ≤ x5_1
      rotate_left
      · rw [if_neg c5] at H
        exact absurd H (by simp)
      rw [if_pos c5] at H
      have c5b0 : decide (0 ≤ x5_1) = true := decide_eq_true c5
      clear c5
      by_cases c6 : x5_1 < (l1.length : Int)
      rotate_left
      · rw [if_neg c6] at H
        exact absurd H (by simp)
      rw [if_pos c6] at H
      have c6b0 : decide (x5_1 < (l1.length : Int)) = true := decide_eq_true c6
      clear c6
      by_cases c7 : (rd l0 x5_1) = (rd l1 x5_1)
      rotate_left
      · rw [if_neg c7] at H
        have c7b0 : ((rd l0 x5_1) == (rd l1 x5_1)) = false := beq_eq_false_iff_ne.mpr c7
        have c7b1 : ((rd l0 x5_1) != (rd l1 x5_1)) = true := bne_iff_ne.mpr c7
        obtain rfl := Option.some.inj H
        have p558 : 0 ≤ (x5_1 : Int) := of_decide_eq_true (by first | (with_reducible assumption) | assumption)
        have q558 : x5_1 < (l0.length : Int) := of_decide_eq_true (by first | (with_reducible assumption) | assumption)
        obtain ⟨ad558, e558, hx558_0⟩ := Kd.at_int HR0.out x5_1 p558 q558
        cases e558
        replace p558 := eq_true p558
        replace q558 := eq_true q558
        have p559 : 0 ≤ (x5_1 : Int) := of_decide_eq_true (by first | (with_reducible assumption) | assumption)
        have q559 : x5_1 < (l1.length : Int) := of_decide_eq_true (by first | (with_reducible assumption) | assumption)
        obtain ⟨ad559, e559, hx559_0⟩ := Kd.at_int HR1.out x5_1 p559 q559
        cases e559
        replace p559 := eq_true p559
        replace q559 := eq_true q559
        go_wp2
        repeat (go_quiet (fail); try go_wp2)
        go_ret
        exact ⟨by first | rfl | (simp; done) | (simp [*]; done), by repeat (first | exact Drawn0.refl _ | apply Drawn0.step)⟩
      rw [if_pos c7] at H
      have c7b0 : ((rd l0 x5_1) == (rd l1 x5_1)) = true := beq_iff_eq.mpr c7
      have c7b1 : ((rd l0 x5_1) != (rd l1 x5_1)) = false := bne_eq_false_iff_eq.mpr c7
      clear c7
      have H' := Aside0.mk H
      clear H
      have p558 : 0 ≤ (x5_1 : Int) := of_decide_eq_true (by first | (with_reducible assumption) | assumption)
      have q558 : x5_1 < (l0.length : Int) := of_decide_eq_true (by first | (with_reducible assumption) | assumption)
      obtain ⟨ad558, e558, hx558_0⟩ := Kd.at_int HR0.out x5_1 p558 q558
      cases e558
      replace p558 := eq_true p558
      replace q558 := eq_true q558
      have p559 : 0 ≤ (x5_1 : Int) := of_decide_eq_true (by first | (with_reducible assumption) | assumption)
      have q559 : x5_1 < (l1.length : Int) := of_decide_eq_true (by first | (with_reducible assumption) | assumption)
      obtain ⟨ad559, e559, hx559_0⟩ := Kd.at_int HR1.out x5_1 p559 q559
      cases e559
      replace p559 := eq_true p559
      replace q559 := eq_true q559
      go_wp2
      repeat (go_quiet (fail); try go_wp2)
      go_roundg k1
      case measure => have := HK1.out; omega
      case rel => exact ⟨(wrap64 (x5_1 + 1)), (by first | rfl | (simp; done) | (simp [*]; done)), H', ⟨by have := HK1.out; omega⟩, by repeat (first | exact Drawn0.refl _ | apply Drawn0.step)⟩
end Go.Proofs.Ytpcchfklmcalaaa.P

namespace Go.Proofs.Ytpcchfklmcalaaa.P
open Go.RowKit Go.Proofs.YtpcchfklmcalaaaW.PrintWords Go.Proofs.YtpcchfklmcalaaaW.PrintLast Go.Proofs.YtpcchfklmcalaaaW.PrintMore
attribute [local go_sem] max2_int min2_int max_two min_two max_three min_three max_four min_four
set_option linter.unusedVariables false
set_option linter.unusedSimpArgs false
def laws_FnExactFreeOf.j0 : Nat → List Int → List Int → Bool → Option (Bool)
  | 0, _, _, _ => none
  | k + 1, x0, x7, x35 => if x35 = true then (some false) else ((laws_toInt64S.f k x0).bind fun t570 => ((laws_eqInt64S.f k x7 t570).bind fun t573 => (if t573 = true then (some true) else (some false))))
def laws_FnExactFreeOf.f (k : Nat) (l0 : List Int) (a1 : Int) : Option (Bool) := if (l0.length : Int) > 1048576 then (some true) else ((laws_toInt64S.f k l0).bind fun t560 => ((spec_FreeOf.f k t560 a1).bind fun bt563 => ((laws_toInt64S.f k l0).bind fun t565 => ((impl_FreeOf.f k t565 a1).bind fun bt568 => (if bt568.1 = bt563.1 then (laws_FnExactFreeOf.j0 k l0 t565 (bt568.2 != bt563.2)) else (laws_FnExactFreeOf.j0 k l0 t565 true))))))
set_option maxHeartbeats 8000000 in
set_option maxRecDepth 100000 in
theorem laws_FnExactFreeOf.calls (k : Nat) (A0 : Option Addr) (c0 : Nat) (l0 : List Int) (a1 : Int) (r : Bool) (w : World) (hr0 : Kd.C (Kd.int .i64) w A0 l0.length l0) (hc0 : l0.length ≤ c0) (h : laws_FnExactFreeOf.f k l0 a1 = some r) (hlaw_ : r = true := by rfl) :
    Calls Try.prog 11 #[.slice A0 l0.length c0, .int .i64 a1] w fun e w' => e = .returned (.bool r) ∧ Below w.heap.size w w' := by
  have HLAW := Aside0.mk hlaw_
  clear hlaw_
  have HR0 := Aside0.mk hr0
  have HC0 := Aside0.mk hc0
  clear hr0 hc0
  have HB := Aside0.mk (Below.refl w.heap.size w)
  have H : (if (l0.length : Int) > 1048576 then (some true) else ((laws_toInt64S.f k l0).bind fun t560 => ((spec_FreeOf.f k t560 a1).bind fun bt563 => ((laws_toInt64S.f k l0).bind fun t565 => ((impl_FreeOf.f k t565 a1).bind fun bt568 => (if bt568.1 = bt563.1 then (laws_FnExactFreeOf.j0 k l0 t565 (bt568.2 != bt563.2)) else (laws_FnExactFreeOf.j0 k l0 t565 true))))))) = some r := h
  clear h
  by_cases c3 : (l0.length : Int) > 1048576
  rotate_left
  · rw [if_neg c3] at H
    have c3b0 : decide (1048576 < (l0.length : Int)) = false := decide_eq_false c3
    have c3b1 : decide (1048576 < l0.length) = false := decide_eq_false (by omega)
    clear c3
    replace H := Option.bind_eq_some_iff.mp H
    obtain ⟨t560, A40, H⟩ := H
    replace H : ((spec_FreeOf.f k t560 a1).bind fun bt563 => ((laws_toInt64S.f k l0).bind fun t565 => ((impl_FreeOf.f k t565 a1).bind fun bt568 => (if bt568.1 = bt563.1 then (laws_FnExactFreeOf.j0 k l0 t565 (bt568.2 != bt563.2)) else (laws_FnExactFreeOf.j0 k l0 t565 true))))) = some r := H
    have A4 := Aside0.mk A40
    clear A40
    replace H := Option.bind_eq_some_iff.mp H
    obtain ⟨⟨t563, t564⟩, A50, H⟩ := H
    replace H : ((laws_toInt64S.f k l0).bind fun t565 => ((impl_FreeOf.f k t565 a1).bind fun bt568 => (if bt568.1 = t563 then (laws_FnExactFreeOf.j0 k l0 t565 (bt568.2 != t564)) else (laws_FnExactFreeOf.j0 k l0 t565 true)))) = some r := H
    have A5 := Aside0.mk A50
    clear A50
    replace H := Option.bind_eq_some_iff.mp H
    obtain ⟨t565, A60, H⟩ := H
    replace H : ((impl_FreeOf.f k t565 a1).bind fun bt568 => (if bt568.1 = t563 then (laws_FnExactFreeOf.j0 k l0 t565 (bt568.2 != t564)) else (laws_FnExactFreeOf.j0 k l0 t565 true))) = some r := H
    have A6 := Aside0.mk A60
    clear A60
    replace H := Option.bind_eq_some_iff.mp H
    obtain ⟨⟨t568, t569⟩, A70, H⟩ := H
    replace H : (if t568 = t563 then (laws_FnExactFreeOf.j0 k l0 t565 (t569 != t564)) else (laws_FnExactFreeOf.j0 k l0 t565 true)) = some r := H
    have A7 := Aside0.mk A70
    clear A70
    have HC8 := Aside0.mk H
    clear H
    go_enter Try.func11, Try.ntmps11
    go_upto_region 6 with (first | ((with_reducible refine gate_callee (f := 34) rfl ?_); refine goesL_ (some 15) rfl rfl Try.func34 (by kernel_rfl) rfl #[.slice A0 l0.length c0] rfl (by (try simp only [List.map_toArray, List.map_cons, List.map_nil]); first | done | rfl | (simp only [List.length_drop, List.length_take]; rfl)) ?_; (with_reducible refine (laws_toInt64S.calls k _ _ l0 t560 _ ?side1 ?side2 A4.out).mono ?_); (case side1 => repeat (first | exact HR0.out | (with_reducible refine Kd.C_alloc ?_ _) | (with_reducible refine Kd.C_drewN ?_ _) | (with_reducible refine Kd.C_drew ?_))); (case side2 => exact HC0.out); rintro e w9 ⟨v561, rfl, ho0, hb⟩; refine ⟨_, rfl, ?_⟩; have n0_ := Aside0.mk (Kd.R_lower ho0 (below_size (by repeat (first | (with_reducible first | exact HB.out | apply below_alloc | apply pw_below_drewN | apply below_drew1) | exact HB.out)))); have n1_ := Aside0.mk (below_step (by repeat (first | (with_reducible first | exact HB.out | apply below_alloc | apply pw_below_drewN | apply below_drew1) | exact HB.out)) hb); clear HB; have HO562 := n0_; have HB := n1_; clear n0_ n1_; (try clear hb); (try clear hb2); (try clear hk); (try clear hi); (try clear ho0); obtain ⟨Ao10, co10, eo10⟩ := Kd.R_slice HO562.out; subst eo10) | ((with_reducible refine gate_callee (f := 33) rfl ?_); refine goesL_ (some 17) rfl rfl Try.func33 (by kernel_rfl) rfl #[.slice Ao10 t560.length co10, .int .i64 a1] rfl (by (try simp only [List.map_toArray, List.map_cons, List.map_nil]); first | done | rfl | (simp only [List.length_drop, List.length_take]; rfl)) ?_; (with_reducible refine (spec_FreeOf.calls k _ _ t560 a1 t563 t564 _ ?side1 ?side2 A5.out).mono ?_); (case side1 => repeat (first | exact (Kd.R_reads' HO562.out).2.2 | (with_reducible refine Kd.C_alloc ?_ _) | (with_reducible refine Kd.C_drewN ?_ _) | (with_reducible refine Kd.C_drew ?_))); (case side2 => exact (Kd.R_reads' HO562.out).2.1); rintro e w' ⟨rfl, ⟨nd, rfl⟩⟩; refine ⟨_, rfl, ?_⟩) | ((with_reducible refine gate_callee (f := 34) rfl ?_); refine goesL_ (some 21) rfl rfl Try.func34 (by kernel_rfl) rfl #[.slice A0 l0.length c0] rfl (by (try simp only [List.map_toArray, List.map_cons, List.map_nil]); first | done | rfl | (simp only [List.length_drop, List.length_take]; rfl)) ?_; (with_reducible refine (laws_toInt64S.calls k _ _ l0 t565 _ ?side1 ?side2 A6.out).mono ?_); (case side1 => repeat (first | exact (Kd.C_below HR0.out (by repeat (first | (with_reducible first | exact HB.out | apply below_alloc | apply pw_below_drewN | apply below_drew1) | exact HB.out))) | (with_reducible refine Kd.C_alloc ?_ _) | (with_reducible refine Kd.C_drewN ?_ _) | (with_reducible refine Kd.C_drew ?_))); (case side2 => exact HC0.out); rintro e w11 ⟨v566, rfl, ho0, hb⟩; refine ⟨_, rfl, ?_⟩; have n0_ := Aside0.mk (Kd.R_elder' (by (with_reducible repeat (first | apply Kd.R_alloc | apply Kd.R_drewN | apply Kd.R_drew)); exact HO562.out) (Kd.R_base ho0) hb); have n1_ := Aside0.mk (Kd.R_lower (Kd.R_new' ho0 (Kd.R_lt (by (with_reducible repeat (first | apply Kd.R_alloc | apply Kd.R_drewN | apply Kd.R_drew)); exact HO562.out))) (below_size (by repeat (first | (with_reducible first | exact HB.out | apply below_alloc | apply pw_below_drewN | apply below_drew1) | exact HB.out)))); have n2_ := Aside0.mk (below_step (by repeat (first | (with_reducible first | exact HB.out | apply below_alloc | apply pw_below_drewN | apply below_drew1) | exact HB.out)) hb); clear HO562; clear HB; have HO562 := n0_; have HO567 := n1_; have HB := n2_; clear n0_ n1_ n2_; (try clear hb); (try clear hb2); (try clear hk); (try clear hi); (try clear ho0); obtain ⟨Ao12, co12, eo12⟩ := Kd.R_slice HO567.out; subst eo12) | ((with_reducible refine gate_callee (f := 35) rfl ?_); refine goesL_ (some 25) rfl rfl Try.func35 (by kernel_rfl) rfl #[.slice Ao12 t565.length co12, .int .i64 a1] rfl (by (try simp only [List.map_toArray, List.map_cons, List.map_nil]); first | done | rfl | (simp only [List.length_drop, List.length_take]; rfl)) ?_; (with_reducible refine (impl_FreeOf.calls k _ _ t565 a1 t568 t569 _ ?side1 ?side2 A7.out).mono ?_); (case side1 => repeat (first | exact (Kd.R_reads' HO567.out).2.2 | (with_reducible refine Kd.C_alloc ?_ _) | (with_reducible refine Kd.C_drewN ?_ _) | (with_reducible refine Kd.C_drew ?_))); (case side2 => exact (Kd.R_reads' HO567.out).2.1); rintro e w13 ⟨rfl, hb⟩; refine ⟨_, rfl, ?_⟩; have n0_ := Aside0.mk (Kd.R_below (by (with_reducible repeat (first | apply Kd.R_alloc | apply Kd.R_drewN | apply Kd.R_drew)); exact HO562.out) hb); have n1_ := Aside0.mk (Kd.R_below (by (with_reducible repeat (first | apply Kd.R_alloc | apply Kd.R_drewN | apply Kd.R_drew)); exact HO567.out) hb); have n2_ := Aside0.mk (below_step (by repeat (first | (with_reducible first | exact HB.out | apply below_alloc | apply pw_below_drewN | apply below_drew1) | exact HB.out)) hb); clear HO562; clear HO567; clear HB; have HO562 := n0_; have HO567 := n1_; have HB := n2_; clear n0_ n1_ n2_; (try clear hb); (try clear hb2); (try clear hk); (try clear hi)))
    (try simp only [Act.put, List.setIfInBounds_toArray, List.set_cons_zero, List.set_cons_succ])
    go_cut [35] (fun v35 wc => ∃ (kq : Nat) (x35_7 : Bool), v35 = .bool x35_7 ∧ Aside0 (laws_FnExactFreeOf.j0 kq l0 t565 x35_7 = some r) ∧ Aside0 (kq ≤ k) ∧ Aside0 (Kd.R (Kd.int .i64) 2 wc w.heap.size (fun _ => True) (.slice Ao12 t565.length co12) t565) ∧ Aside0 (Below w.heap.size w wc))
    case first =>
      have H := HC8.out
      clear HC8
      by_cases c14 : t568 = t563
      rotate_left
      · rw [if_neg c14] at H
        have c14b0 : (t568 == t563) = false := beq_eq_false_iff_ne.mpr c14
        have c14b1 : (t568 != t563) = true := bne_iff_ne.mpr c14
        (first | rw [c14b0] | (simp only [i64_w, i32_w]; rw [c14b0]) | skip)
        have H' := Aside0.mk H
        clear H
        go_wp2
        go_meet
        case rel => exact ⟨_, (true), (by first | rfl | (simp; done) | (simp [*]; done)), H', ⟨by first | omega | exact Nat.le_refl _⟩, ⟨by (with_reducible repeat (first | apply Kd.R_alloc | apply Kd.R_drewN | apply Kd.R_drew)); exact Kd.R_mono HO567.out (fun _ hk => trivial)⟩, ⟨by repeat (first | (with_reducible first | exact HB.out | apply below_alloc | apply pw_below_drewN | apply below_drew1) | exact HB.out)⟩⟩
      rw [if_pos c14] at H
      have c14b0 : (t568 == t563) = true := beq_iff_eq.mpr c14
      have c14b1 : (t568 != t563) = false := bne_eq_false_iff_eq.mpr c14
      clear c14
      (first | rw [c14b0] | (simp only [i64_w, i32_w]; rw [c14b0]) | skip)
      have H' := Aside0.mk H
      clear H
      go_wp2
      go_meet
      case rel => exact ⟨_, ((t569 != t564)), (by first | rfl | (simp; done) | (simp [*]; done)), H', ⟨by first | omega | exact Nat.le_refl _⟩, ⟨by (with_reducible repeat (first | apply Kd.R_alloc | apply Kd.R_drewN | apply Kd.R_drew)); exact Kd.R_mono HO567.out (fun _ hk => trivial)⟩, ⟨by repeat (first | (with_reducible first | exact HB.out | apply below_alloc | apply pw_below_drewN | apply below_drew1) | exact HB.out)⟩⟩
    case rest =>
      clear HC8
      try clear c1
      try clear p2
      try clear c3
      try clear c3b0
      try clear c3b1
      try clear c11
      try clear c14
      try clear c14b0
      try clear c14b1
      obtain ⟨kq, x35_7, rfl, HA, HJ7, HO_7, HB⟩ := hcut
      cases kq with
      | zero => exact absurd HA.out (by simp [laws_FnExactFreeOf.j0])
      | succ kj7 =>
        have H := HA.out
        clear HA
        simp only [laws_FnExactFreeOf.j0] at H
        by_cases c15 : x35_7 = true
        rotate_left
        · replace c15 := Bool.eq_false_iff.mpr c15
          subst c15
          have H1 : ((laws_toInt64S.f kj7 l0).bind fun t570 => ((laws_eqInt64S.f kj7 t565 t570).bind fun t573 => (if t573 = true then (some true) else (some false)))) = some r := by rw [if_neg (show ¬ (false = true) by decide)] at H; exact H
          clear H
          have H := H1
          clear H1
          replace H := Option.bind_eq_some_iff.mp H
          obtain ⟨t570, A160, H⟩ := H
          replace H : ((laws_eqInt64S.f kj7 t565 t570).bind fun t573 => (if t573 = true then (some true) else (some false))) = some r := H
          have A16 := Aside0.mk A160
          clear A160
          replace H := Option.bind_eq_some_iff.mp H
          obtain ⟨t573, A170, H⟩ := H
          replace H : (if t573 = true then (some true) else (some false)) = some r := H
          have A17 := Aside0.mk A170
          clear A170
          by_cases c18 : t573 = true
          rotate_left
          · replace c18 := Bool.eq_false_iff.mpr c18
            subst c18
            have H1 : (some false) = some r := by rw [if_neg (show ¬ (false = true) by decide)] at H; exact H
            clear H
            have H := H1
            clear H1
            exact absurd ((Option.some.inj H).trans HLAW.out) (by decide)
          subst c18
          have H1 : (some true) = some r := by rw [if_pos rfl] at H; exact H
          clear H
          have H := H1
          clear H1
          obtain rfl := Option.some.inj H
          go_wp2_with (first | ((with_reducible refine gate_callee (f := 34) rfl ?_); refine goesL_ (some 38) rfl rfl Try.func34 (by kernel_rfl) rfl #[.slice A0 l0.length c0] rfl (by (try simp only [List.map_toArray, List.map_cons, List.map_nil]); first | done | rfl | (simp only [List.length_drop, List.length_take]; rfl)) ?_; (with_reducible refine (laws_toInt64S.calls kj7 _ _ l0 t570 _ ?side1 ?side2 A16.out).mono ?_); (case side1 => repeat (first | exact (Kd.C_below HR0.out HB.out) | (with_reducible refine Kd.C_alloc ?_ _) | (with_reducible refine Kd.C_drewN ?_ _) | (with_reducible refine Kd.C_drew ?_))); (case side2 => exact HC0.out); rintro e w19 ⟨v571, rfl, ho0, hb⟩; refine ⟨_, rfl, ?_⟩; have n0_ := Aside0.mk (Kd.R_elder' (by (with_reducible repeat (first | apply Kd.R_alloc | apply Kd.R_drewN | apply Kd.R_drew)); exact HO_7.out) (Kd.R_base ho0) hb); have n1_ := Aside0.mk (Kd.R_lower (Kd.R_new' ho0 (Kd.R_lt (by (with_reducible repeat (first | apply Kd.R_alloc | apply Kd.R_drewN | apply Kd.R_drew)); exact HO_7.out))) (below_size (by repeat (first | (with_reducible first | exact HB.out | apply below_alloc | apply pw_below_drewN | apply below_drew1) | exact HB.out)))); have n2_ := Aside0.mk (below_step (by repeat (first | (with_reducible first | exact HB.out | apply below_alloc | apply pw_below_drewN | apply below_drew1) | exact HB.out)) hb); clear HO_7; clear HB; have HO_7 := n0_; have HO572 := n1_; have HB := n2_; clear n0_ n1_ n2_; (try clear hb); (try clear hb2); (try clear hk); (try clear hi); (try clear ho0); obtain ⟨Ao20, co20, eo20⟩ := Kd.R_slice HO572.out; subst eo20) | ((with_reducible refine gate_callee (f := 36) rfl ?_); refine goesL_ (some 39) rfl rfl Try.func36 (by kernel_rfl) rfl #[.slice Ao12 t565.length co12, .slice Ao20 t570.length co20] rfl (by (try simp only [List.map_toArray, List.map_cons, List.map_nil]); first | done | rfl | (simp only [List.length_drop, List.length_take]; rfl)) ?_; (with_reducible refine (laws_eqInt64S.calls kj7 _ _ t565 _ _ t570 true _ ?side1 ?side2 ?side3 ?side4 A17.out).mono ?_); (case side1 => repeat (first | exact (Kd.R_reads' HO_7.out).2.2 | (with_reducible refine Kd.C_alloc ?_ _) | (with_reducible refine Kd.C_drewN ?_ _) | (with_reducible refine Kd.C_drew ?_))); (case side2 => exact (Kd.R_reads' HO_7.out).2.1); (case side3 => repeat (first | exact (Kd.R_reads' HO572.out).2.2 | (with_reducible refine Kd.C_alloc ?_ _) | (with_reducible refine Kd.C_drewN ?_ _) | (with_reducible refine Kd.C_drew ?_))); (case side4 => exact (Kd.R_reads' HO572.out).2.1); rintro e w' ⟨rfl, ⟨nd, rfl⟩⟩; refine ⟨_, rfl, ?_⟩))
          go_ret
          exact ⟨by first | rfl | (simp [errW_none, errW_some] <;> rfl) | (simp [*, errW_none, errW_some] <;> rfl), by repeat (first | (with_reducible first | exact HB.out | apply below_alloc | apply pw_below_drewN | apply below_drew1) | exact HB.out)⟩
        subst c15
        have H1 : (some false) = some r := by rw [if_pos rfl] at H; exact H
        clear H
        have H := H1
        clear H1
        exact absurd ((Option.some.inj H).trans HLAW.out) (by decide)
  rw [if_pos c3] at H
  have c3b0 : decide (1048576 < (l0.length : Int)) = true := decide_eq_true c3
  have c3b1 : decide (1048576 < l0.length) = true := decide_eq_true (by omega)
  clear c3
  obtain rfl := Option.some.inj H
  go_enter Try.func11, Try.ntmps11
  go_wp2
  go_ret
  exact ⟨by first | rfl | (simp [errW_none, errW_some] <;> rfl) | (simp [*, errW_none, errW_some] <;> rfl), by repeat (first | (with_reducible first | exact HB.out | apply below_alloc | apply pw_below_drewN | apply below_drew1) | exact HB.out)⟩
def laws_FnExactFreeOf.Pure : Prop := ∀ (l0 : List Int) (a1 : Int), l0.length ≤ maxLen → l0.length * 8 ≤ 140737488351232 → (∀ x ∈ l0, (Lit.int .i64 x).wf = true) → (Lit.int .i64 a1).wf = true → ∃ k, laws_FnExactFreeOf.f k l0 a1 = some true
theorem laws_FnExactFreeOf.walk (P : laws_FnExactFreeOf.Pure) (a0 : Option Addr) (len0 cap0 : Nat) (z0 : List Int) (a1 : Int) (w : World) (w0 : (a0 = none ∧ len0 = 0 ∧ cap0 = 0 ∧ z0 = []) ∨ ∃ x, a0 = some x ∧ len0 ≤ cap0 ∧ cap0 ≤ maxLen ∧ z0.length = cap0 ∧ (∀ i, i < z0.length → w.cell? (x.add i) = some (.int .i64 (z0.getD i 0))) ∧ ∀ n ∈ z0, (Lit.int .i64 n).wf = true) (y0 : len0 * 8 ≤ 140737488351232) (w1 : (Lit.int .i64 a1).wf = true) :
    Calls Try.prog 11 #[.slice a0 len0 cap0, .int .i64 a1] w fun e w' => e = .returned (.bool true) ∧ Below w.heap.size w w' := by
  obtain ⟨l0, rfl, hr0, hm0, hw0, hc0⟩ := ReadsInt.ofRowC w0
  obtain ⟨k, h⟩ := P l0 a1 hm0 y0 hw0 w1
  refine (laws_FnExactFreeOf.calls k _ _ l0 a1 true w (Kd.C_of_reads (d := (0 : Int)) (h1 := fun _ => rfl) hr0) hc0 h).mono ?_
  rintro e w' ⟨rfl, hd⟩
  exact ⟨rfl, hd⟩
end Go.Proofs.Ytpcchfklmcalaaa.P

namespace Go.Proofs.Ytpcchfklmcalaaa.Pure
open Go.RowKit Go.Proofs.Ytpcchfklmcalaaa.P Go.Proofs.YtpcchfklmcalaaaW.PrintWords Go.Proofs.YtpcchfklmcalaaaW.PrintLast
set_option linter.unusedVariables false
set_option linter.unusedSimpArgs false
theorem EvG {α : Type} {g : Nat → Option α} {r : α} (h : Ev g r) : ∃ K, ∀ k, K ≤ k → g k = some r := h
theorem EvI {α : Type} {g : Nat → Option α} {r : α} (K : Nat) (h : ∀ k, K ≤ k → g k = some r) : Ev g r := ⟨K, h⟩
theorem wN (i : Nat) (h : i < 4611686018427387904) : wrap64 ((i : Int) + 1) = ((i + 1 : Nat) : Int) := by
  unfold wrap64; omega
theorem rdN (l : List Int) (i : Nat) : rd l (i : Int) = l.getD i 0 := rfl
theorem getD_eq (l : List Int) (i : Nat) (h : i < l.length) : l.getD i 0 = l[i] := by
  rw [List.getD_eq_getElem?_getD, List.getElem?_eq_getElem h]; rfl
theorem getD_mem (l : List Int) (i : Nat) (h : i < l.length) : l.getD i 0 ∈ l := by rw [getD_eq l i h]; exact List.getElem_mem h
theorem list_ext (a b : List Int) (hl : a.length = b.length) (h : ∀ j, j < b.length → a.getD j 0 = b.getD j 0) : a = b := by
  apply List.ext_getElem hl
  intro i h1 h2
  have := h i h2
  rwa [getD_eq a i h1, getD_eq b i h2] at this
theorem getD_set (l : List Int) (i j : Nat) (v : Int) (h : i < l.length) : (l.set i v).getD j 0 = if i = j then v else l.getD j 0 := by
  simp only [List.getD_eq_getElem?_getD, List.getElem?_set]
  by_cases e : i = j
  · subst e; simp [h]
  · simp [e]
end Go.Proofs.Ytpcchfklmcalaaa.Pure

namespace Go.Proofs.Ytpcchfklmcalaaa.Pure
open Go.RowKit Go.Proofs.Ytpcchfklmcalaaa.P Go.Proofs.YtpcchfklmcalaaaW.PrintWords Go.Proofs.YtpcchfklmcalaaaW.PrintLast
set_option linter.unusedVariables false
set_option linter.unusedSimpArgs false
theorem toI_l0 (l : List Int) (hb : l.length ≤ 17592186044415) : ∀ d i x, l.length - i = d → i ≤ l.length → x.length = l.length → (∀ j, j < i → x.getD j 0 = l.getD j 0) → Ev (fun k => laws_toInt64S.l0 k l x (i : Int)) l := by
  intro d
  induction d with
  | zero =>
    intro i x hd hi hx hj
    refine Ev.step (f := fun _ => some x) (fun k => ?_) ?_
    · rw [laws_toInt64S.l0, if_neg (by omega)]
    · have : x = l := list_ext x l hx (fun j h => hj j (by omega))
      rw [this]; exact Ev.now l
  | succ d ih =>
    intro i x hd hi hx hj
    refine Ev.step (fun k => ?_) (ih (i + 1) (x.set i (l.getD i 0)) (by omega) (by omega) (by simpa using hx) ?_)
    · rw [laws_toInt64S.l0, if_pos (by omega), if_pos (by omega), if_pos (by omega), wN i (by omega), rdN, Int.toNat_natCast]
    · intro j h
      rw [getD_set x i j _ (by omega)]
      by_cases e : i = j
      · rw [if_pos e, e]
      · rw [if_neg e]; exact hj j (by omega)
theorem toI (l : List Int) (hb : l.length ≤ 17592186044415) : Ev (fun k => laws_toInt64S.f k l) l := by
  refine Ev.congr (f := fun k => laws_toInt64S.l0 k l (List.replicate l.length 0) ((0 : Nat) : Int)) (fun k => ?_) (toI_l0 l hb _ 0 _ rfl (Nat.zero_le _) (by simp) (fun j h => absurd h (Nat.not_lt_zero _)))
  simp only [laws_toInt64S.f, Int.toNat_natCast]
  rw [if_pos (by omega), if_pos (by omega)]; rfl
theorem eqI_l0 (l : List Int) (hb : l.length ≤ 17592186044415) : ∀ d i, l.length - i = d → i ≤ l.length → Ev (fun k => laws_eqInt64S.l0 k l l (i : Int)) true := by
  intro d
  induction d with
  | zero =>
    intro i hd hi
    refine Ev.step (f := fun _ => some true) (fun k => ?_) (Ev.now true)
    rw [laws_eqInt64S.l0, if_neg (by omega)]
  | succ d ih =>
    intro i hd hi
    refine Ev.step (fun k => ?_) (ih (i + 1) (by omega) (by omega))
    rw [laws_eqInt64S.l0, if_pos (by omega), if_pos (by omega), if_pos (by omega), if_pos rfl, wN i (by omega)]
theorem eqI (l : List Int) (hb : l.length ≤ 17592186044415) : Ev (fun k => laws_eqInt64S.f k l l) true := by
  refine Ev.congr (f := fun k => laws_eqInt64S.l0 k l l ((0 : Nat) : Int)) (fun k => ?_) (eqI_l0 l hb _ 0 rfl (Nat.zero_le _))
  simp only [laws_eqInt64S.f, if_true]; rfl
end Go.Proofs.Ytpcchfklmcalaaa.Pure

namespace Go.Proofs.Ytpcchfklmcalaaa.Pure
open Go.RowKit Go.Proofs.Ytpcchfklmcalaaa.P Go.Proofs.YtpcchfklmcalaaaW.PrintWords Go.Proofs.YtpcchfklmcalaaaW.PrintLast Go.Proofs.YtpcchfklmcalaaaW.PrintMore
set_option linter.unusedVariables false
set_option linter.unusedSimpArgs false
theorem inFE (a lo hi : Int) : spec_l00In.f a lo hi = some (decide (lo ≤ a) && decide (a ≤ hi)) := by
  unfold spec_l00In.f; by_cases h : lo ≤ a <;> simp [h]
theorem withinFE (a lo hi : Int) : impl_within.f a lo hi = some (decide (lo ≤ a) && decide (a ≤ hi)) := by
  unfold impl_within.f; by_cases h : lo ≤ a <;> simp [h]
theorem areWE (p : List Int) (lo hi : Int) : ∃ b, impl_areWithin.f p lo hi = some b ∧ (b = true ↔ ∀ j, j < p.length → lo ≤ p.getD j 0 ∧ p.getD j 0 ≤ hi) := by
  refine ⟨_, rfl, ?_⟩
  rw [List.all_eq_true]
  constructor
  · intro h j hj
    have := h _ (getD_mem p j hj)
    simpa [Bool.and_eq_true, decide_eq_true_eq] using this
  · intro h x hx
    obtain ⟨j, hj, rfl⟩ := List.mem_iff_getElem.1 hx
    have := h j hj
    rw [getD_eq p j hj] at this
    simpa [Bool.and_eq_true, decide_eq_true_eq] using this
def lm (l : List Int) (s : Nat) : Nat → Int
  | 0 => 10000
  | j + 1 => if lm l s j < l.getD (s + j) 0 then lm l s j else l.getD (s + j) 0
theorem piece_at (l : List Int) (m x j : Nat) (h : j < (impl_FreeOf.piece l m x).length) : (impl_FreeOf.piece l m x).getD j 0 = l.getD (x * m + j) 0 := by
  rw [impl_FreeOf.piece_len] at h
  unfold impl_FreeOf.piece
  rw [List.getD_eq_getElem?_getD, List.getElem?_take, if_pos (by omega), List.getElem?_drop, ← List.getD_eq_getElem?_getD]
theorem min_l0 (l p : List Int) (s : Nat) (hp : ∀ j, j < p.length → p.getD j 0 = l.getD (s + j) 0) (hb : p.length ≤ 1000000) : ∀ d i, p.length - i = d → 1 ≤ i → i ≤ p.length → Ev (fun k => slices_Min_int64_int64.l0 k p (lm l s i) (i : Int)) (lm l s p.length) := by
  intro d
  induction d with
  | zero =>
    intro i hd h1 hi
    obtain rfl : i = p.length := by omega
    refine Ev.step (f := fun _ => some (lm l s p.length)) (fun k => ?_) (Ev.now _)
    rw [slices_Min_int64_int64.l0, if_neg (by omega)]
  | succ d ih =>
    intro i hd h1 hi
    refine Ev.step (fun k => ?_) (ih (i + 1) (by omega) (by omega) (by omega))
    rw [slices_Min_int64_int64.l0, if_pos (by omega), if_pos (by omega), rdN, hp i (by omega), wN i (by omega)]
    have e : mn (lm l s i) (l.getD (s + i) 0) = lm l s (i + 1) := by
      rw [lm]; unfold mn; split <;> split <;> omega
    rw [e]
theorem minF (l p : List Int) (s : Nat) (hp : ∀ j, j < p.length → p.getD j 0 = l.getD (s + j) 0) (h0 : 1 ≤ p.length) (hb : p.length ≤ 1000000) (hv : p.getD 0 0 ≤ 10000) : Ev (fun k => slices_Min_int64_int64.f k p) (lm l s p.length) := by
  refine Ev.congr (fun k => ?_) (min_l0 l p s hp hb _ 1 rfl (Nat.le_refl _) h0)
  have e := hp 0 (by omega)
  have e1 : lm l s 1 = p.getD 0 0 := by
    rw [lm, lm, ← e]
    split <;> omega
  rw [slices_Min_int64_int64.f, if_neg (by omega), if_pos (by omega), e1]
  rfl
def RR (l : List Int) (m : Nat) : Nat → Int
  | 0 => 0
  | x + 1 => if (impl_FreeOf.piece l m x).length = m then wrap64 (RR l m x + lm l (x * m) m) else RR l m x
theorem runF (l : List Int) (m : Nat) (hm : 1 ≤ m) (hl : l.length ≤ 1000) (hv : ∀ j, j < l.length → l.getD j 0 ≤ 10000) : ∀ n, n ≤ slices_Chunk_Lint64_int64.num l.length m → Ev (fun k => impl_FreeOf.run k l m n) (RR l m n)
  | 0, _ => Ev.now _
  | n + 1, h => by
    obtain ⟨K1, h1⟩ := EvG (runF l m hm hl hv n (by omega))
    have hx := (slices_Chunk_Lint64_int64.num_lt (len := l.length) hm).1 (show n < _ by omega)
    by_cases c : (impl_FreeOf.piece l m n).length = m
    · obtain ⟨K2, h2⟩ := EvG (minF l (impl_FreeOf.piece l m n) (n * m) (fun j hj => piece_at l m n j hj) (by omega) (by have := impl_FreeOf.piece_len l m n; omega) (by rw [piece_at l m n 0 (by omega)]; exact hv _ (by omega)))
      refine EvI (K1 + K2) fun k hk => ?_
      rw [impl_FreeOf.run, impl_FreeOf.add, h1 k (by omega), Option.bind_some, if_pos c, h2 k (by omega), Option.bind_some, RR, if_pos c, c]
    · refine EvI K1 fun k hk => ?_
      rw [impl_FreeOf.run, impl_FreeOf.add, h1 k (by omega), Option.bind_some, if_neg c, RR, if_neg c]
theorem minS (a b : Int) : spec_l00Min.f a b = some (if a < b then a else b) := by unfold spec_l00Min.f; split <;> rfl
theorem free_l1 (l : List Int) (m : Nat) (hm : 1 ≤ m) (hm8 : m ≤ 8) (hl : l.length ≤ 100) : ∀ d x j, l.length - (x * m + j) = d → x * m + j ≤ l.length → j < m → Ev (fun k => spec_FreeOf.l1 k l (m : Int) (RR l m x) (lm l (x * m) j) ((x * m + j : Nat) : Int)) (RR l m (slices_Chunk_Lint64_int64.num l.length m), 0) := by
  intro d
  induction d with
  | zero =>
    intro x j hd hi hj
    have hN : RR l m (slices_Chunk_Lint64_int64.num l.length m) = RR l m x := by
      have key := fun q => slices_Chunk_Lint64_int64.num_lt (len := l.length) (k := q) hm
      have e1 : (x + 1) * m = x * m + m := Nat.succ_mul x m
      by_cases c : j = 0
      · have : slices_Chunk_Lint64_int64.num l.length m = x := by
          have h1 := key x
          cases x with
          | zero => omega
          | succ y =>
            have h2 := key y
            have e2 : (y + 1) * m = y * m + m := Nat.succ_mul y m
            omega
        rw [this]
      · have : slices_Chunk_Lint64_int64.num l.length m = x + 1 := by
          have h1 := key x
          have h2 := key (x + 1)
          omega
        rw [this, RR, if_neg (by rw [impl_FreeOf.piece_len]; omega)]
    refine Ev.step (f := fun _ => some (RR l m x, 0)) (fun k => ?_) (by rw [hN]; exact Ev.now _)
    rw [spec_FreeOf.l1, if_neg (by omega)]
  | succ d ih =>
    intro x j hd hi hj
    have e1 : (x + 1) * m = x * m + m := Nat.succ_mul x m
    have e2 : wrap64 (((x * m + j : Nat) : Int) + 1) = ((x * m + (j + 1) : Nat) : Int) := wN _ (by omega)
    have e3 : (if lm l (x * m) j < l.getD (x * m + j) 0 then lm l (x * m) j else l.getD (x * m + j) 0) = lm l (x * m) (j + 1) := by rw [lm]
    have e4 : Int.tmod ((x * m + (j + 1) : Nat) : Int) (m : Int) = (((j + 1) % m : Nat) : Int) := by
      rw [← Int.ofNat_tmod, Nat.mul_comm x m, Nat.mul_add_mod]
    have eS : ∀ k, spec_FreeOf.l1 (k + 1) l (m : Int) (RR l m x) (lm l (x * m) j) ((x * m + j : Nat) : Int) = (if (((j + 1) % m : Nat) : Int) = 0 then (spec_FreeOf.l1 k l (m : Int) (wrap64 (RR l m x + lm l (x * m) (j + 1))) 10000 ((x * m + (j + 1) : Nat) : Int)) else (spec_FreeOf.l1 k l (m : Int) (RR l m x) (lm l (x * m) (j + 1)) ((x * m + (j + 1) : Nat) : Int))) := fun k => by
      rw [spec_FreeOf.l1, if_pos (by omega), if_pos (by omega), rdN, minS, Option.bind_some, e3, if_neg (by omega), e2, e4]
    by_cases c : j + 1 = m
    · have h := ih (x + 1) 0 (by omega) (by omega) (by omega)
      rw [RR, if_pos (by rw [impl_FreeOf.piece_len]; omega)] at h
      refine Ev.step (fun k => ?_) h
      rw [eS, if_pos (by rw [c, Nat.mod_self]; rfl), c, show x * m + m = (x + 1) * m + 0 by omega]
      rfl
    · refine Ev.step (fun k => ?_) (ih x (j + 1) (by omega) (by omega) (by omega))
      rw [eS, if_neg (by rw [Nat.mod_eq_of_lt (by omega)]; omega)]
theorem free_l0 (l : List Int) (a : Int) (hb : l.length ≤ 1048576) : ∀ d i (t : Bool), l.length - i = d → i ≤ l.length → ∃ g : Bool, (g = true ↔ t = true ∧ ∀ j, i ≤ j → j < l.length → 0 ≤ l.getD j 0 ∧ l.getD j 0 ≤ 10000) ∧
    ∀ r, Ev (fun k => if g = true then (if (l.length : Int) > 100 then (some (0, 3)) else (spec_FreeOf.l1 k l a 0 10000 0)) else some (0, 2)) r → Ev (fun k => spec_FreeOf.l0 k l a t (i : Int)) r := by
  intro d
  induction d with
  | zero =>
    intro i t hd hi
    refine ⟨t, ⟨fun h => ⟨h, fun j h1 h2 => absurd (Nat.lt_of_le_of_lt h1 h2) (by omega)⟩, fun h => h.1⟩, fun r hr => Ev.step (fun k => ?_) hr⟩
    rw [spec_FreeOf.l0, if_neg (by omega)]
  | succ d ih =>
    intro i t hd hi
    cases t with
    | true =>
      obtain ⟨g, g1, g2⟩ := ih (i + 1) (decide (0 ≤ l.getD i 0) && decide (l.getD i 0 ≤ 10000)) (by omega) (by omega)
      refine ⟨g, ?_, fun r hr => Ev.step (fun k => ?_) (g2 r hr)⟩
      · rw [g1]
        simp only [Bool.and_eq_true, decide_eq_true_eq]
        constructor
        · rintro ⟨h1, h2⟩
          refine ⟨trivial, fun j j1 j2 => ?_⟩
          by_cases e : j = i
          · subst e; exact h1
          · exact h2 j (by omega) j2
        · rintro ⟨_, h2⟩
          exact ⟨h2 i (Nat.le_refl _) (by omega), fun j j1 j2 => h2 j (by omega) j2⟩
      · rw [spec_FreeOf.l0, if_pos (by omega), if_pos rfl, if_pos (by omega), rdN, inFE, Option.bind_some, wN i (by omega)]
    | false =>
      obtain ⟨g, g1, g2⟩ := ih (i + 1) false (by omega) (by omega)
      refine ⟨g, ?_, fun r hr => Ev.step (fun k => ?_) (g2 r hr)⟩
      · rw [g1]; simp
      · rw [spec_FreeOf.l0, if_pos (by omega), if_neg (by simp), wN i (by omega)]
theorem freeBoth (l : List Int) (a : Int) (hb : l.length ≤ 1048576) : ∃ r : Int × Int, Ev (fun k => spec_FreeOf.f k l a) r ∧ Ev (fun k => impl_FreeOf.f k l a) r := by
  obtain ⟨u, u1, u2⟩ := areWE l 0 10000
  obtain ⟨g, g1, g2⟩ := free_l0 l a hb _ 0 (decide (2 ≤ a) && decide (a ≤ 8)) rfl (Nat.zero_le _)
  have fin : ∀ r, Ev (fun k => if g = true then (if (l.length : Int) > 100 then (some (0, 3)) else (spec_FreeOf.l1 k l a 0 10000 0)) else some (0, 2)) r → Ev (fun k => spec_FreeOf.f k l a) r := fun r hr =>
    Ev.congr (fun k => by rw [spec_FreeOf.f, inFE, Option.bind_some]; rfl) (g2 r hr)
  cases ht : (decide (2 ≤ a) && decide (a ≤ 8)) with
  | false =>
    have hg : g = false := by
      cases g with
      | false => rfl
      | true => have := (g1.1 rfl).1; rw [ht] at this; cases this
    refine ⟨(0, 2), fin _ (by rw [hg]; exact Ev.now _), EvI 0 fun k _ => ?_⟩
    rw [impl_FreeOf.f, withinFE, ht, Option.bind_some, if_neg (by simp)]
  | true =>
    have ha := ht
    simp only [Bool.and_eq_true, decide_eq_true_eq] at ha
    cases u with
    | false =>
      have hg : g = false := by
        cases g with
        | false => rfl
        | true => have := u2.2 (fun j hj => (g1.1 rfl).2 j (Nat.zero_le _) hj); cases this
      refine ⟨(0, 2), fin _ (by rw [hg]; exact Ev.now _), EvI 0 fun k _ => ?_⟩
      rw [impl_FreeOf.f, withinFE, ht, Option.bind_some, if_pos rfl, u1, Option.bind_some, if_neg (by simp)]
    | true =>
      have hg : g = true := g1.2 ⟨ht, fun j _ hj => u2.1 rfl j hj⟩
      by_cases c : (l.length : Int) > 100
      · refine ⟨(0, 3), fin _ (by rw [hg]; simp only [if_true, if_pos c]; exact Ev.now _), EvI 0 fun k _ => ?_⟩
        rw [impl_FreeOf.f, withinFE, ht, Option.bind_some, if_pos rfl, u1, Option.bind_some, if_pos rfl, if_pos c]
      · obtain ⟨m, rfl⟩ := Int.eq_ofNat_of_zero_le (show 0 ≤ a by omega)
        obtain ⟨K1, h1⟩ := EvG (runF l m (by omega) (by omega) (fun j hj => (u2.1 rfl j hj).2) (slices_Chunk_Lint64_int64.num l.length m) (Nat.le_refl _))
        have h2 := free_l1 l m (by omega) (by omega) (by omega) _ 0 0 rfl (by omega) (by omega)
        refine ⟨(RR l m (slices_Chunk_Lint64_int64.num l.length m), 0), fin _ ?_, EvI K1 fun k hk => ?_⟩
        · rw [hg]
          simp only [if_true, if_neg c]
          refine Ev.congr (fun k => ?_) h2
          simp [RR, lm]
        · rw [impl_FreeOf.f, withinFE, ht, Option.bind_some, if_pos rfl, u1, Option.bind_some, if_pos rfl, if_neg c, if_pos (by omega), if_pos (by omega), Int.toNat_natCast, h1 k hk, Option.bind_some]
theorem FnExactFreeOf : laws_FnExactFreeOf.Pure := by
  intro n a _ _ _ _
  by_cases h0 : (n.length : Int) > 1048576
  · exact ⟨0, by rw [laws_FnExactFreeOf.f, if_pos h0]⟩
  obtain ⟨K2, e2⟩ := EvG (toI n (by omega))
  obtain ⟨r, h3, h4⟩ := freeBoth n a (by omega)
  obtain ⟨K3, h3⟩ := EvG h3
  obtain ⟨K4, h4⟩ := EvG h4
  obtain ⟨K6, h6⟩ := EvG (eqI n (by omega))
  refine ⟨K2 + K3 + K4 + K6 + 1, ?_⟩
  rw [laws_FnExactFreeOf.f, if_neg h0, e2 _ (by omega), Option.bind_some, h3 _ (by omega), Option.bind_some, Option.bind_some, h4 _ (by omega), Option.bind_some, if_pos rfl, bne_self_eq_false,
    laws_FnExactFreeOf.j0, if_neg (by simp), e2 _ (by omega), Option.bind_some, h6 _ (by omega), Option.bind_some, if_pos rfl]
end Go.Proofs.Ytpcchfklmcalaaa.Pure
