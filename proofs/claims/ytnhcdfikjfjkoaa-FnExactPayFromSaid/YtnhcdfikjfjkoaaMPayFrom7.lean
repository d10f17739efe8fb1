/- The Go functions that the law FnExactPayFrom comes to, as plain Lean functions, the proofs that calls of them return what those tell, and the plain lemmas on them; no condition but those that each theorem states. -/
import Derived.Test.YtnhcdfikjfjkoaaMPayFrom2
import Derived.Test.YtnhcdfikjfjkoaaMPayFrom6
import Derived.Test.YtnhcdfikjfjkoaaMPayFrom4
import Derived.Test.YtnhcdfikjfjkoaaMPayFrom5
import Derived.Test.YtnhcdfikjfjkoaaMPayFrom3
import Derived.Test.YtnhcdfikjfjkoaaRows
import Derived.Test.YtnhcdfikjfjkoaaMPayFrom1
import Derived.Deep.Slices
import Derived.WalkKit
import Derived.ProofKit
import Derived.OpenShut
import Derived.ShutString
import Derived.ChangeOld
import Derived.Below
import Derived.SizedLaws
import Derived.ChangeArms
import Derived.Carry
namespace Go.Proofs.Ytnhcdfikjfjkoaa.P
open Go.RowKit Go.Proofs.YtnhcdfikjfjkoaaW.PrintWords Go.Proofs.YtnhcdfikjfjkoaaW.PrintLast Go.Proofs.YtnhcdfikjfjkoaaW.PrintMore
attribute [local go_sem] max2_int min2_int max_two min_two max_three min_three max_four min_four   -- for this text's walks alone
set_option linter.unusedVariables false
set_option linter.unusedSimpArgs false

/-! ### spec_l01Values: function 73 -/
def spec_l01Values.l0 : Nat → List Int → Int → Option (Bool)
  | 0, _, _ => none
  | k + 1, x0, x3 => if x3 < (x0.length : Int) then (if 0 ≤ x3 then ((spec_l00In.f (rd x0 x3) 1 500).bind fun t102 => (if t102 = true then (if x3 > 0 then (if 0 ≤ (wrap64 (x3 - 1)) then (if (wrap64 (x3 - 1)) < (x0.length : Int) then (if (rd x0 x3) ≤ (rd x0 (wrap64 (x3 - 1))) then (some false) else (spec_l01Values.l0 k x0 (wrap64 (x3 + 1)))) else (none)) else (none)) else (spec_l01Values.l0 k x0 (wrap64 (x3 + 1)))) else (some false))) else (none)) else ((spec_l00In.f (x0.length : Int) 1 8).bind fun t105 => (some t105))
def spec_l01Values.f (k : Nat) (l0 : List Int) : Option (Bool) := spec_l01Values.l0 k l0 0
theorem spec_l01Values.mono_l : ∀ k, (∀ y0 y1, LeO (spec_l01Values.l0 k y0 y1) (spec_l01Values.l0 (k + 1) y0 y1))
  | 0 => fun _ _ r h => by simp [spec_l01Values.l0] at h
  | k + 1 => by
    have ih0 := spec_l01Values.mono_l k
    · intro y0 y1
      unfold spec_l01Values.l0
      repeat' first
      | (with_reducible exact ih0 _ _)
      | (with_reducible exact LeO.refl _)
      | (with_reducible exact LeO.none _)
      | (with_reducible refine LeO.ite ?_ ?_)
      | (with_reducible refine LeO.bind ?_ (fun _ => ?_))
      | exact ih0 _ _
      | exact LeO.none _
      | refine LeO.ite ?_ ?_
      | refine LeO.bind ?_ (fun _ => ?_)
theorem spec_l01Values.mono : ∀ a0 k, LeO (spec_l01Values.f k a0) (spec_l01Values.f (k + 1) a0) := by
  intro a0 k
  have ih0 := spec_l01Values.mono_l k
  unfold spec_l01Values.f
  repeat' first
      | (with_reducible exact ih0 _ _)
      | (with_reducible exact LeO.refl _)
      | (with_reducible exact LeO.none _)
      | (with_reducible refine LeO.ite ?_ ?_)
      | (with_reducible refine LeO.bind ?_ (fun _ => ?_))
      | exact ih0 _ _
      | exact LeO.none _
      | refine LeO.ite ?_ ?_
      | refine LeO.bind ?_ (fun _ => ?_)
set_option maxHeartbeats 8000000 in
set_option maxRecDepth 100000 in
theorem spec_l01Values.calls (k : Nat) (A0 : Option Addr) (c0 : Nat) (l0 : List Int) (r : Bool) (w : World) (hr0 : Kd.C (Kd.int .i64) w A0 l0.length l0) (hc0 : l0.length ≤ c0) (h : spec_l01Values.f k l0 = some r) :
    Calls Try.prog 73 #[.slice A0 l0.length c0] w fun e w' => e = .returned (.bool r) ∧ Drawn0 w w' := by
  have HR0 := Aside0.mk hr0
  have HC0 := Aside0.mk hc0
  clear hr0 hc0
  have H : (spec_l01Values.l0 k l0 0) = some r := h
  clear h
  have H' := Aside0.mk H
  clear H
  go_enter Try.func73, Try.ntmps73
  go_wp2
  repeat (go_quiet (fail); try go_wp2)
  go_loopg [3] k (fun kq v3 w' => ∃ (x3_1 : Int), v3 = .int .i64 x3_1 ∧ Aside0 (spec_l01Values.l0 kq l0 x3_1 = some r) ∧ Aside0 (kq ≤ k) ∧ Drawn0 w w')
  case atStart => exact ⟨(0), (by first | rfl | (simp; done) | (simp [*]; done)), H', ⟨Nat.le_refl _⟩, by repeat (first | exact Drawn0.refl _ | apply Drawn0.step)⟩
  case round =>
    clear H'
    obtain ⟨x3_1, rfl, HA, HK1, ⟨m1, rfl⟩⟩ := hrel
    cases gk with
    | zero => exact absurd HA.out (by simp [spec_l01Values.l0])
    | succ k1 =>
      have H := HA.out
      clear HA
      simp only [spec_l01Values.l0] at H
      by_cases c2 : x3_1 < (l0.length : Int)
      rotate_left
      · rw [if_neg c2] at H
        have c2b0 : decide (x3_1 < (l0.length : Int)) = false := decide_eq_false c2
        clear c2
        replace H := Option.bind_eq_some_iff.mp H
        obtain ⟨t105, A110, H⟩ := H
        replace H : (some t105) = some r := H
        have A11 := Aside0.mk A110
        clear A110
        obtain rfl := Option.some.inj H
        go_wp2_with (first | (go_at_call 74; (with_reducible refine (spec_l00In.calls (l0.length : Int) 1 8 t105 _ A11.out).mono ?_); rintro e w' ⟨rfl, ⟨nd, rfl⟩⟩; (try first | exact ⟨rfl, _, World.drewN_drewN _ _ _⟩ | exact ⟨rfl, _, Eq.trans (World.drewN_drewN _ _ _) (congrArg (World.drewN _) (Nat.add_assoc _ _ _))⟩)))
        repeat (go_quiet (first | (go_at_call 74; (with_reducible refine (spec_l00In.calls (l0.length : Int) 1 8 t105 _ A11.out).mono ?_); rintro e w' ⟨rfl, ⟨nd, rfl⟩⟩; (try first | exact ⟨rfl, _, World.drewN_drewN _ _ _⟩ | exact ⟨rfl, _, Eq.trans (World.drewN_drewN _ _ _) (congrArg (World.drewN _) (Nat.add_assoc _ _ _))⟩))); try go_wp2_with (first | (go_at_call 74; (with_reducible refine (spec_l00In.calls (l0.length : Int) 1 8 t105 _ A11.out).mono ?_); rintro e w' ⟨rfl, ⟨nd, rfl⟩⟩; (try first | exact ⟨rfl, _, World.drewN_drewN _ _ _⟩ | exact ⟨rfl, _, Eq.trans (World.drewN_drewN _ _ _) (congrArg (World.drewN _) (Nat.add_assoc _ _ _))⟩))))
        go_ret
        exact ⟨by first | rfl | (simp; done) | (simp [*]; done), by repeat (first | exact Drawn0.refl _ | apply Drawn0.step)⟩

      rw [if_pos c2] at H
      have c2b0 : decide (x3_1 < (l0.length : Int)) = true := decide_eq_true c2
      clear c2
      by_cases c3 : 0 ≤ x3_1
      rotate_left
      · rw [if_neg c3] at H
        exact absurd H (by simp)
      rw [if_pos c3] at H
      have c3b0 : decide (0 ≤ x3_1) = true := decide_eq_true c3
      clear c3
      replace H := Option.bind_eq_some_iff.mp H
      obtain ⟨t102, A40, H⟩ := H
      replace H : (if t102 = true then (if x3_1 > 0 then (if 0 ≤ (wrap64 (x3_1 - 1)) then (if (wrap64 (x3_1 - 1)) < (l0.length : Int) then (if (rd l0 x3_1) ≤ (rd l0 (wrap64 (x3_1 - 1))) then (some false) else (spec_l01Values.l0 k1 l0 (wrap64 (x3_1 + 1)))) else (none)) else (none)) else (spec_l01Values.l0 k1 l0 (wrap64 (x3_1 + 1)))) else (some false)) = some r := H
      have A4 := Aside0.mk A40
      clear A40
      by_cases c5 : t102 = true
      rotate_left
      · replace c5 := Bool.eq_false_iff.mpr c5
        subst c5
        have H1 : (some false) = some r := by rw [if_neg (show ¬ (false = true) by decide)] at H; exact H
        clear H
        have H := H1
        clear H1
        obtain rfl := Option.some.inj H
        have p101 : 0 ≤ (x3_1 : Int) := of_decide_eq_true (by first | (with_reducible assumption) | assumption)
        have q101 : x3_1 < (l0.length : Int) := of_decide_eq_true (by first | (with_reducible assumption) | assumption)
        obtain ⟨ad101, e101, hx101_0⟩ := Kd.at_int HR0.out x3_1 p101 q101
        cases e101
        replace p101 := eq_true p101
        replace q101 := eq_true q101
        go_wp2_with (first | (go_at_call 74; (with_reducible refine (spec_l00In.calls (rd l0 x3_1) 1 500 false _ A4.out).mono ?_); rintro e w' ⟨rfl, ⟨nd, rfl⟩⟩; (try first | exact ⟨rfl, _, World.drewN_drewN _ _ _⟩ | exact ⟨rfl, _, Eq.trans (World.drewN_drewN _ _ _) (congrArg (World.drewN _) (Nat.add_assoc _ _ _))⟩)))
        repeat (go_quiet (first | (go_at_call 74; (with_reducible refine (spec_l00In.calls (rd l0 x3_1) 1 500 false _ A4.out).mono ?_); rintro e w' ⟨rfl, ⟨nd, rfl⟩⟩; (try first | exact ⟨rfl, _, World.drewN_drewN _ _ _⟩ | exact ⟨rfl, _, Eq.trans (World.drewN_drewN _ _ _) (congrArg (World.drewN _) (Nat.add_assoc _ _ _))⟩))); try go_wp2_with (first | (go_at_call 74; (with_reducible refine (spec_l00In.calls (rd l0 x3_1) 1 500 false _ A4.out).mono ?_); rintro e w' ⟨rfl, ⟨nd, rfl⟩⟩; (try first | exact ⟨rfl, _, World.drewN_drewN _ _ _⟩ | exact ⟨rfl, _, Eq.trans (World.drewN_drewN _ _ _) (congrArg (World.drewN _) (Nat.add_assoc _ _ _))⟩))))
        go_ret
        exact ⟨by first | rfl | (simp; done) | (simp [*]; done), by repeat (first | exact Drawn0.refl _ | apply Drawn0.step)⟩
      subst c5
      have H1 : (if x3_1 > 0 then (if 0 ≤ (wrap64 (x3_1 - 1)) then (if (wrap64 (x3_1 - 1)) < (l0.length : Int) then (if (rd l0 x3_1) ≤ (rd l0 (wrap64 (x3_1 - 1))) then (some false) else (spec_l01Values.l0 k1 l0 (wrap64 (x3_1 + 1)))) else (none)) else (none)) else (spec_l01Values.l0 k1 l0 (wrap64 (x3_1 + 1)))) = some r := by rw [if_pos rfl] at H; exact H
      clear H
      have H := H1
      clear H1
      by_cases c6 : x3_1 > 0
      rotate_left
      · rw [if_neg c6] at H
        have c6b0 : decide (0 < x3_1) = false := decide_eq_false c6
        clear c6
        have H' := Aside0.mk H
        clear H
        have p101 : 0 ≤ (x3_1 : Int) := of_decide_eq_true (by first | (with_reducible assumption) | assumption)
        have q101 : x3_1 < (l0.length : Int) := of_decide_eq_true (by first | (with_reducible assumption) | assumption)
        obtain ⟨ad101, e101, hx101_0⟩ := Kd.at_int HR0.out x3_1 p101 q101
        cases e101
        replace p101 := eq_true p101
        replace q101 := eq_true q101
        go_wp2_with (first | (go_at_call 74; (with_reducible refine (spec_l00In.calls (rd l0 x3_1) 1 500 true _ A4.out).mono ?_); rintro e w' ⟨rfl, ⟨nd, rfl⟩⟩; (try first | exact ⟨rfl, _, World.drewN_drewN _ _ _⟩ | exact ⟨rfl, _, Eq.trans (World.drewN_drewN _ _ _) (congrArg (World.drewN _) (Nat.add_assoc _ _ _))⟩)))
        repeat (go_quiet (first | (go_at_call 74; (with_reducible refine (spec_l00In.calls (rd l0 x3_1) 1 500 true _ A4.out).mono ?_); rintro e w' ⟨rfl, ⟨nd, rfl⟩⟩; (try first | exact ⟨rfl, _, World.drewN_drewN _ _ _⟩ | exact ⟨rfl, _, Eq.trans (World.drewN_drewN _ _ _) (congrArg (World.drewN _) (Nat.add_assoc _ _ _))⟩))); try go_wp2_with (first | (go_at_call 74; (with_reducible refine (spec_l00In.calls (rd l0 x3_1) 1 500 true _ A4.out).mono ?_); rintro e w' ⟨rfl, ⟨nd, rfl⟩⟩; (try first | exact ⟨rfl, _, World.drewN_drewN _ _ _⟩ | exact ⟨rfl, _, Eq.trans (World.drewN_drewN _ _ _) (congrArg (World.drewN _) (Nat.add_assoc _ _ _))⟩))))
        go_roundg k1
        case measure => have := HK1.out; omega
        case rel => exact ⟨(wrap64 (x3_1 + 1)), (by first | rfl | (simp; done) | (simp [*]; done)), H', ⟨by have := HK1.out; omega⟩, by repeat (first | exact Drawn0.refl _ | apply Drawn0.step)⟩
      rw [if_pos c6] at H
      have c6b0 : decide (0 < x3_1) = true := decide_eq_true c6
      clear c6
      obtain ⟨ji7, hji7⟩ : ∃ j_ : Int, (wrap64 (x3_1 - 1)) = j_ := ⟨_, rfl⟩
      replace H : (if 0 ≤ (ji7) then (if (ji7) < (l0.length : Int) then (if (rd l0 x3_1) ≤ (rd l0 (ji7)) then (some false) else (spec_l01Values.l0 k1 l0 (wrap64 (x3_1 + 1)))) else (none)) else (none)) = some r := by first | (rw [hji7] at H; exact H) | (simp only [hji7] at H ⊢; exact H)
      (try rw [hji7] at A4)
      have hji7w : (IntKind.i64.wrap (x3_1 - 1)) = ji7 := (i64_w _).trans hji7
      by_cases c8 : 0 ≤ (ji7)
      rotate_left
      · rw [if_neg c8] at H
        exact absurd H (by simp)
      rw [if_pos c8] at H
      have c8b0 : decide (0 ≤ (ji7)) = true := decide_eq_true c8
      clear c8
      by_cases c9 : (ji7) < (l0.length : Int)
      rotate_left
      · rw [if_neg c9] at H
        exact absurd H (by simp)
      rw [if_pos c9] at H
      have c9b0 : decide ((ji7) < (l0.length : Int)) = true := decide_eq_true c9
      clear c9
      by_cases c10 : (rd l0 x3_1) ≤ (rd l0 (ji7))
      rotate_left
      · rw [if_neg c10] at H
        have c10b0 : decide ((rd l0 x3_1) ≤ (rd l0 (ji7))) = false := decide_eq_false c10
        clear c10
        have H' := Aside0.mk H
        clear H
        have p101 : 0 ≤ (x3_1 : Int) := of_decide_eq_true (by first | (with_reducible assumption) | assumption)
        have q101 : x3_1 < (l0.length : Int) := of_decide_eq_true (by first | (with_reducible assumption) | assumption)
        obtain ⟨ad101, e101, hx101_0⟩ := Kd.at_int HR0.out x3_1 p101 q101
        cases e101
        replace p101 := eq_true p101
        replace q101 := eq_true q101
        go_wp2_with (first | (go_at_call 74; (with_reducible refine (spec_l00In.calls (rd l0 x3_1) 1 500 true _ A4.out).mono ?_); rintro e w' ⟨rfl, ⟨nd, rfl⟩⟩; (try first | exact ⟨rfl, _, World.drewN_drewN _ _ _⟩ | exact ⟨rfl, _, Eq.trans (World.drewN_drewN _ _ _) (congrArg (World.drewN _) (Nat.add_assoc _ _ _))⟩); have p103 : 0 ≤ (x3_1 : Int) := of_decide_eq_true (by first | (with_reducible assumption) | assumption); have q103 : x3_1 < (l0.length : Int) := of_decide_eq_true (by first | (with_reducible assumption) | assumption); obtain ⟨ad103, e103, hx103_0⟩ := Kd.at_int HR0.out x3_1 p103 q103; obtain rfl : ad101 = ad103 := (by injection e103); replace p103 := eq_true p103; replace q103 := eq_true q103; have p104 : 0 ≤ ((ji7) : Int) := of_decide_eq_true (by first | (with_reducible assumption) | assumption); have q104 : (ji7) < (l0.length : Int) := of_decide_eq_true (by first | (with_reducible assumption) | assumption); obtain ⟨ad104, e104, hx104_0⟩ := Kd.at_int HR0.out (ji7) p104 q104; obtain rfl : ad101 = ad104 := (by injection e104); replace p104 := eq_true p104; replace q104 := eq_true q104))
        repeat (go_quiet (first | (go_at_call 74; (with_reducible refine (spec_l00In.calls (rd l0 x3_1) 1 500 true _ A4.out).mono ?_); rintro e w' ⟨rfl, ⟨nd, rfl⟩⟩; (try first | exact ⟨rfl, _, World.drewN_drewN _ _ _⟩ | exact ⟨rfl, _, Eq.trans (World.drewN_drewN _ _ _) (congrArg (World.drewN _) (Nat.add_assoc _ _ _))⟩); have p103 : 0 ≤ (x3_1 : Int) := of_decide_eq_true (by first | (with_reducible assumption) | assumption); have q103 : x3_1 < (l0.length : Int) := of_decide_eq_true (by first | (with_reducible assumption) | assumption); obtain ⟨ad103, e103, hx103_0⟩ := Kd.at_int HR0.out x3_1 p103 q103; obtain rfl : ad101 = ad103 := (by injection e103); replace p103 := eq_true p103; replace q103 := eq_true q103; have p104 : 0 ≤ ((ji7) : Int) := of_decide_eq_true (by first | (with_reducible assumption) | assumption); have q104 : (ji7) < (l0.length : Int) := of_decide_eq_true (by first | (with_reducible assumption) | assumption); obtain ⟨ad104, e104, hx104_0⟩ := Kd.at_int HR0.out (ji7) p104 q104; obtain rfl : ad101 = ad104 := (by injection e104); replace p104 := eq_true p104; replace q104 := eq_true q104)); try go_wp2_with (first | (go_at_call 74; (with_reducible refine (spec_l00In.calls (rd l0 x3_1) 1 500 true _ A4.out).mono ?_); rintro e w' ⟨rfl, ⟨nd, rfl⟩⟩; (try first | exact ⟨rfl, _, World.drewN_drewN _ _ _⟩ | exact ⟨rfl, _, Eq.trans (World.drewN_drewN _ _ _) (congrArg (World.drewN _) (Nat.add_assoc _ _ _))⟩); have p103 : 0 ≤ (x3_1 : Int) := of_decide_eq_true (by first | (with_reducible assumption) | assumption); have q103 : x3_1 < (l0.length : Int) := of_decide_eq_true (by first | (with_reducible assumption) | assumption); obtain ⟨ad103, e103, hx103_0⟩ := Kd.at_int HR0.out x3_1 p103 q103; obtain rfl : ad101 = ad103 := (by injection e103); replace p103 := eq_true p103; replace q103 := eq_true q103; have p104 : 0 ≤ ((ji7) : Int) := of_decide_eq_true (by first | (with_reducible assumption) | assumption); have q104 : (ji7) < (l0.length : Int) := of_decide_eq_true (by first | (with_reducible assumption) | assumption); obtain ⟨ad104, e104, hx104_0⟩ := Kd.at_int HR0.out (ji7) p104 q104; obtain rfl : ad101 = ad104 := (by injection e104); replace p104 := eq_true p104; replace q104 := eq_true q104)))
        go_roundg k1
        case measure => have := HK1.out; omega
        case rel => exact ⟨(wrap64 (x3_1 + 1)), (by first | rfl | (simp; done) | (simp [*]; done)), H', ⟨by have := HK1.out; omega⟩, by repeat (first | exact Drawn0.refl _ | apply Drawn0.step)⟩
      rw [if_pos c10] at H
      have c10b0 : decide ((rd l0 x3_1) ≤ (rd l0 (ji7))) = true := decide_eq_true c10
      clear c10
      obtain rfl := Option.some.inj H
      have p101 : 0 ≤ (x3_1 : Int) := of_decide_eq_true (by first | (with_reducible assumption) | assumption)
      have q101 : x3_1 < (l0.length : Int) := of_decide_eq_true (by first | (with_reducible assumption) | assumption)
      obtain ⟨ad101, e101, hx101_0⟩ := Kd.at_int HR0.out x3_1 p101 q101
      cases e101
      replace p101 := eq_true p101
      replace q101 := eq_true q101
      go_wp2_with (first | (go_at_call 74; (with_reducible refine (spec_l00In.calls (rd l0 x3_1) 1 500 true _ A4.out).mono ?_); rintro e w' ⟨rfl, ⟨nd, rfl⟩⟩; (try first | exact ⟨rfl, _, World.drewN_drewN _ _ _⟩ | exact ⟨rfl, _, Eq.trans (World.drewN_drewN _ _ _) (congrArg (World.drewN _) (Nat.add_assoc _ _ _))⟩); have p103 : 0 ≤ (x3_1 : Int) := of_decide_eq_true (by first | (with_reducible assumption) | assumption); have q103 : x3_1 < (l0.length : Int) := of_decide_eq_true (by first | (with_reducible assumption) | assumption); obtain ⟨ad103, e103, hx103_0⟩ := Kd.at_int HR0.out x3_1 p103 q103; obtain rfl : ad101 = ad103 := (by injection e103); replace p103 := eq_true p103; replace q103 := eq_true q103; have p104 : 0 ≤ ((ji7) : Int) := of_decide_eq_true (by first | (with_reducible assumption) | assumption); have q104 : (ji7) < (l0.length : Int) := of_decide_eq_true (by first | (with_reducible assumption) | assumption); obtain ⟨ad104, e104, hx104_0⟩ := Kd.at_int HR0.out (ji7) p104 q104; obtain rfl : ad101 = ad104 := (by injection e104); replace p104 := eq_true p104; replace q104 := eq_true q104))
      repeat (go_quiet (first | (go_at_call 74; (with_reducible refine (spec_l00In.calls (rd l0 x3_1) 1 500 true _ A4.out).mono ?_); rintro e w' ⟨rfl, ⟨nd, rfl⟩⟩; (try first | exact ⟨rfl, _, World.drewN_drewN _ _ _⟩ | exact ⟨rfl, _, Eq.trans (World.drewN_drewN _ _ _) (congrArg (World.drewN _) (Nat.add_assoc _ _ _))⟩); have p103 : 0 ≤ (x3_1 : Int) := of_decide_eq_true (by first | (with_reducible assumption) | assumption); have q103 : x3_1 < (l0.length : Int) := of_decide_eq_true (by first | (with_reducible assumption) | assumption); obtain ⟨ad103, e103, hx103_0⟩ := Kd.at_int HR0.out x3_1 p103 q103; obtain rfl : ad101 = ad103 := (by injection e103); replace p103 := eq_true p103; replace q103 := eq_true q103; have p104 : 0 ≤ ((ji7) : Int) := of_decide_eq_true (by first | (with_reducible assumption) | assumption); have q104 : (ji7) < (l0.length : Int) := of_decide_eq_true (by first | (with_reducible assumption) | assumption); obtain ⟨ad104, e104, hx104_0⟩ := Kd.at_int HR0.out (ji7) p104 q104; obtain rfl : ad101 = ad104 := (by injection e104); replace p104 := eq_true p104; replace q104 := eq_true q104)); try go_wp2_with (first | (go_at_call 74; (with_reducible refine (spec_l00In.calls (rd l0 x3_1) 1 500 true _ A4.out).mono ?_); rintro e w' ⟨rfl, ⟨nd, rfl⟩⟩; (try first | exact ⟨rfl, _, World.drewN_drewN _ _ _⟩ | exact ⟨rfl, _, Eq.trans (World.drewN_drewN _ _ _) (congrArg (World.drewN _) (Nat.add_assoc _ _ _))⟩); have p103 : 0 ≤ (x3_1 : Int) := of_decide_eq_true (by first | (with_reducible assumption) | assumption); have q103 : x3_1 < (l0.length : Int) := of_decide_eq_true (by first | (with_reducible assumption) | assumption); obtain ⟨ad103, e103, hx103_0⟩ := Kd.at_int HR0.out x3_1 p103 q103; obtain rfl : ad101 = ad103 := (by injection e103); replace p103 := eq_true p103; replace q103 := eq_true q103; have p104 : 0 ≤ ((ji7) : Int) := of_decide_eq_true (by first | (with_reducible assumption) | assumption); have q104 : (ji7) < (l0.length : Int) := of_decide_eq_true (by first | (with_reducible assumption) | assumption); obtain ⟨ad104, e104, hx104_0⟩ := Kd.at_int HR0.out (ji7) p104 q104; obtain rfl : ad101 = ad104 := (by injection e104); replace p104 := eq_true p104; replace q104 := eq_true q104)))
      go_ret
      exact ⟨by first | rfl | (simp; done) | (simp only [← hji7] <;> (first | rfl | simp)) | (simp [*]; done), by repeat (first | exact Drawn0.refl _ | apply Drawn0.step)⟩
end Go.Proofs.Ytnhcdfikjfjkoaa.P

namespace Go.Proofs.Ytnhcdfikjfjkoaa.P
open Go.RowKit Go.Proofs.YtnhcdfikjfjkoaaW.PrintWords Go.Proofs.YtnhcdfikjfjkoaaW.PrintLast Go.Proofs.YtnhcdfikjfjkoaaW.PrintMore
attribute [local go_sem] max2_int min2_int max_two min_two max_three min_three max_four min_four   -- for this text's walks alone
set_option linter.unusedVariables false
set_option linter.unusedSimpArgs false

/-! ### spec_l01Asked: function 39 -/
def spec_l01Asked.f (k : Nat) (l0 : List Int) (a1 : Bool) : Option (Int) := (spec_l01Values.f k l0).bind fun t106 => (if t106 = true then (if a1 = true then (some 0) else (some 2)) else (some 1))
theorem spec_l01Asked.mono : ∀ a0 a1 k, LeO (spec_l01Asked.f k a0 a1) (spec_l01Asked.f (k + 1) a0 a1) := by
  intro a0 a1 k
  unfold spec_l01Asked.f
  repeat' first
      | (with_reducible exact spec_l01Values.mono _ _)
      | (with_reducible exact LeO.refl _)
      | (with_reducible exact LeO.none _)
      | (with_reducible refine LeO.ite ?_ ?_)
      | (with_reducible refine LeO.bind ?_ (fun _ => ?_))
      | exact spec_l01Values.mono _ _
      | exact LeO.none _
      | refine LeO.ite ?_ ?_
      | refine LeO.bind ?_ (fun _ => ?_)
set_option maxHeartbeats 8000000 in
set_option maxRecDepth 100000 in
theorem spec_l01Asked.calls (k : Nat) (A0 : Option Addr) (c0 : Nat) (l0 : List Int) (a1 : Bool) (r : Int) (w : World) (hr0 : Kd.C (Kd.int .i64) w A0 l0.length l0) (hc0 : l0.length ≤ c0) (h : spec_l01Asked.f k l0 a1 = some r) :
    Calls Try.prog 39 #[.slice A0 l0.length c0, .bool a1] w fun e w' => e = .returned (.int .i64 r) ∧ Drawn0 w w' := by
  have HR0 := Aside0.mk hr0
  have HC0 := Aside0.mk hc0
  clear hr0 hc0
  have H : ((spec_l01Values.f k l0).bind fun t106 => (if t106 = true then (if a1 = true then (some 0) else (some 2)) else (some 1))) = some r := h
  clear h
  replace H := Option.bind_eq_some_iff.mp H
  obtain ⟨t106, A30, H⟩ := H
  replace H : (if t106 = true then (if a1 = true then (some 0) else (some 2)) else (some 1)) = some r := H
  have A3 := Aside0.mk A30
  clear A30
  by_cases c4 : t106 = true
  rotate_left
  · replace c4 := Bool.eq_false_iff.mpr c4
    subst c4
    have H1 : (some 1) = some r := by rw [if_neg (show ¬ (false = true) by decide)] at H; exact H
    clear H
    have H := H1
    clear H1
    obtain rfl := Option.some.inj H
    go_enter Try.func39, Try.ntmps39
    go_wp2_with (first | ((with_reducible refine gate_callee (f := 73) rfl ?_); refine goesL_ (some 6) rfl rfl Try.func73 (by kernel_rfl) rfl #[.slice A0 l0.length c0] rfl (by (try simp only [List.map_toArray, List.map_cons, List.map_nil]); first | done | rfl | (simp only [List.length_drop, List.length_take]; rfl)) ?_; (with_reducible refine (spec_l01Values.calls k _ _ l0 false _ ?side1 ?side2 A3.out).mono ?_); (case side1 => repeat (first | exact HR0.out | (with_reducible refine Kd.C_alloc ?_ _) | (with_reducible refine Kd.C_drewN ?_ _) | (with_reducible refine Kd.C_drew ?_))); (case side2 => exact HC0.out); rintro e w' ⟨rfl, ⟨nd, rfl⟩⟩; refine ⟨_, rfl, ?_⟩))
    go_ret
    exact ⟨by first | rfl | (simp; done) | (simp [*]; done), by repeat (first | exact Drawn0.refl _ | apply Drawn0.step)⟩

  subst c4
  have H1 : (if a1 = true then (some 0) else (some 2)) = some r := by rw [if_pos rfl] at H; exact H
  clear H
  have H := H1
  clear H1
  by_cases c5 : a1 = true
  rotate_left
  · replace c5 := Bool.eq_false_iff.mpr c5
    subst c5
    have H1 : (some 2) = some r := by rw [if_neg (show ¬ (false = true) by decide)] at H; exact H
    clear H
    have H := H1
    clear H1
    obtain rfl := Option.some.inj H
    go_enter Try.func39, Try.ntmps39
    go_wp2_with (first | ((with_reducible refine gate_callee (f := 73) rfl ?_); refine goesL_ (some 6) rfl rfl Try.func73 (by kernel_rfl) rfl #[.slice A0 l0.length c0] rfl (by (try simp only [List.map_toArray, List.map_cons, List.map_nil]); first | done | rfl | (simp only [List.length_drop, List.length_take]; rfl)) ?_; (with_reducible refine (spec_l01Values.calls k _ _ l0 true _ ?side1 ?side2 A3.out).mono ?_); (case side1 => repeat (first | exact HR0.out | (with_reducible refine Kd.C_alloc ?_ _) | (with_reducible refine Kd.C_drewN ?_ _) | (with_reducible refine Kd.C_drew ?_))); (case side2 => exact HC0.out); rintro e w' ⟨rfl, ⟨nd, rfl⟩⟩; refine ⟨_, rfl, ?_⟩))
    go_ret
    exact ⟨by first | rfl | (simp; done) | (simp [*]; done), by repeat (first | exact Drawn0.refl _ | apply Drawn0.step)⟩
  subst c5
  have H1 : (some 0) = some r := by rw [if_pos rfl] at H; exact H
  clear H
  have H := H1
  clear H1
  obtain rfl := Option.some.inj H
  go_enter Try.func39, Try.ntmps39
  go_wp2_with (first | ((with_reducible refine gate_callee (f := 73) rfl ?_); refine goesL_ (some 6) rfl rfl Try.func73 (by kernel_rfl) rfl #[.slice A0 l0.length c0] rfl (by (try simp only [List.map_toArray, List.map_cons, List.map_nil]); first | done | rfl | (simp only [List.length_drop, List.length_take]; rfl)) ?_; (with_reducible refine (spec_l01Values.calls k _ _ l0 true _ ?side1 ?side2 A3.out).mono ?_); (case side1 => repeat (first | exact HR0.out | (with_reducible refine Kd.C_alloc ?_ _) | (with_reducible refine Kd.C_drewN ?_ _) | (with_reducible refine Kd.C_drew ?_))); (case side2 => exact HC0.out); rintro e w' ⟨rfl, ⟨nd, rfl⟩⟩; refine ⟨_, rfl, ?_⟩))
  go_ret
  exact ⟨by first | rfl | (simp; done) | (simp [*]; done), by repeat (first | exact Drawn0.refl _ | apply Drawn0.step)⟩
end Go.Proofs.Ytnhcdfikjfjkoaa.P

namespace Go.Proofs.Ytnhcdfikjfjkoaa.Pure
open Go.RowKit Go.Proofs.Ytnhcdfikjfjkoaa.P Go.Proofs.YtnhcdfikjfjkoaaW.PrintWords Go.Proofs.YtnhcdfikjfjkoaaW.PrintLast
set_option linter.unusedVariables false
set_option linter.unusedSimpArgs false

theorem inF (a lo hi : Int) : spec_l00In.f a lo hi = some (decide (lo ≤ a) && decide (a ≤ hi)) := by
  unfold spec_l00In.f; by_cases h : lo ≤ a <;> simp [h]
theorem withinF (a lo hi : Int) : impl_within.f a lo hi = some (decide (lo ≤ a) && decide (a ≤ hi)) := by
  unfold impl_within.f; by_cases h : lo ≤ a <;> simp [h]

/-- Values are valid: one to eight, rising, each from 1 to 500. -/
def VV (l : List Int) : Prop :=
  1 ≤ l.length ∧ l.length ≤ 8 ∧ (∀ j, j < l.length → 1 ≤ l.getD j 0 ∧ l.getD j 0 ≤ 500) ∧ (∀ j, 0 < j → j < l.length → l.getD (j - 1) 0 < l.getD j 0)

theorem specVV_l0 (l : List Int) (hb : l.length ≤ 17592186044415) : ∀ d i, l.length - i = d → i ≤ l.length →
    ∃ r, Ev (fun k => spec_l01Values.l0 k l (i : Int)) r ∧ (r = true ↔ (∀ j, i ≤ j → j < l.length → (1 ≤ l.getD j 0 ∧ l.getD j 0 ≤ 500) ∧ (0 < j → l.getD (j - 1) 0 < l.getD j 0)) ∧ 1 ≤ l.length ∧ l.length ≤ 8) := by
  intro d
  induction d with
  | zero =>
    intro i hd hi
    refine ⟨decide (1 ≤ l.length) && decide (l.length ≤ 8), Ev.step (f := fun _ => some (decide (1 ≤ l.length) && decide (l.length ≤ 8))) (fun k => ?_) (Ev.now _), ?_⟩
    · rw [spec_l01Values.l0, if_neg (by omega), inF, Option.bind_some]
      congr 2 <;> (rw [decide_eq_decide]; omega)
    · simp only [Bool.and_eq_true, decide_eq_true_eq]
      exact ⟨fun h => ⟨fun j h1 h2 => by omega, h⟩, fun h => h.2⟩
  | succ d ih =>
    intro i hd hi
    have hlt : i < l.length := by omega
    by_cases hin : 1 ≤ l.getD i 0 ∧ l.getD i 0 ≤ 500
    · have e1 : (decide (1 ≤ l.getD i 0) && decide (l.getD i 0 ≤ 500)) = true := by simp only [hin.1, hin.2, decide_true, Bool.and_self]
      rcases Nat.eq_zero_or_pos i with h0 | h0
      · subst h0
        obtain ⟨r, hr, hi'⟩ := ih 1 (by omega) (by omega)
        refine ⟨r, Ev.step (fun k => ?_) hr, ?_⟩
        · rw [spec_l01Values.l0, if_pos (by omega), if_pos (by omega), rdN, inF, Option.bind_some, if_pos e1, if_neg (by omega), wN 0 (by omega)]
        · rw [hi']
          refine ⟨fun h => ⟨fun j h1 h2 => ?_, h.2⟩, fun h => ⟨fun j h1 h2 => h.1 j (by omega) h2, h.2⟩⟩
          rcases Nat.eq_zero_or_pos j with e | e
          · subst e; exact ⟨hin, fun h => absurd h (Nat.lt_irrefl 0)⟩
          · exact h.1 j e h2
      · have e2 : wrap64 ((i : Int) - 1) = ((i - 1 : Nat) : Int) := by rw [w64 (by omega) (by omega)]; omega
        by_cases hle : l.getD i 0 ≤ l.getD (i - 1) 0
        · refine ⟨false, Ev.step (f := fun _ => some false) (fun k => ?_) (Ev.now _), ?_⟩
          · rw [spec_l01Values.l0, if_pos (by omega), if_pos (by omega), rdN, inF, Option.bind_some, if_pos e1, if_pos (by omega), e2, if_pos (by omega), if_pos (by omega), rdN, if_pos hle]
          · simp only [Bool.false_eq_true, false_iff]
            intro h
            have := (h.1 i (Nat.le_refl _) hlt).2 h0
            omega
        · obtain ⟨r, hr, hi'⟩ := ih (i + 1) (by omega) (by omega)
          refine ⟨r, Ev.step (fun k => ?_) hr, ?_⟩
          · rw [spec_l01Values.l0, if_pos (by omega), if_pos (by omega), rdN, inF, Option.bind_some, if_pos e1, if_pos (by omega), e2, if_pos (by omega), if_pos (by omega), rdN, if_neg hle, wN i (by omega)]
          · rw [hi']
            refine ⟨fun h => ⟨fun j h1 h2 => ?_, h.2⟩, fun h => ⟨fun j h1 h2 => h.1 j (by omega) h2, h.2⟩⟩
            rcases Nat.eq_or_lt_of_le h1 with e | e
            · subst e; exact ⟨hin, fun _ => by omega⟩
            · exact h.1 j e h2
    · have e1 : ¬ ((decide (1 ≤ l.getD i 0) && decide (l.getD i 0 ≤ 500)) = true) := by simpa using hin
      refine ⟨false, Ev.step (f := fun _ => some false) (fun k => ?_) (Ev.now _), ?_⟩
      · rw [spec_l01Values.l0, if_pos (by omega), if_pos (by omega), rdN, inF, Option.bind_some, if_neg e1]
      · simp only [Bool.false_eq_true, false_iff]
        intro h
        exact hin (h.1 i (Nat.le_refl _) hlt).1

theorem specVV (l : List Int) (hb : l.length ≤ 17592186044415) : ∃ r, Ev (fun k => spec_l01Values.f k l) r ∧ (r = true ↔ VV l) := by
  obtain ⟨r, hr, hi⟩ := specVV_l0 l hb _ 0 rfl (Nat.zero_le _)
  refine ⟨r, hr, hi.trans ⟨fun h => ⟨h.2.1, h.2.2, fun j hj => (h.1 j (Nat.zero_le _) hj).1, fun j h0 hj => (h.1 j (Nat.zero_le _) hj).2 h0⟩, fun h => ⟨fun j _ hj => ⟨h.2.2.1 j hj, fun h0 => h.2.2.2 j h0 hj⟩, h.1, h.2.1⟩⟩⟩

theorem rising_l0 (l : List Int) (hb : l.length ≤ 17592186044415) : ∀ d i, l.length - i = d → 1 ≤ i →
    ∃ r, Ev (fun k => impl_isRising.l0 k l (i : Int)) r ∧ (r = true ↔ (∀ j, i ≤ j → j < l.length → l.getD (j - 1) 0 < l.getD j 0)) := by
  intro d
  induction d with
  | zero =>
    intro i hd h1
    refine ⟨true, Ev.step (f := fun _ => some true) (fun k => ?_) (Ev.now _), ?_⟩
    · rw [impl_isRising.l0, if_neg (by omega)]
    · exact ⟨fun _ j h1 h2 => by omega, fun _ => rfl⟩
  | succ d ih =>
    intro i hd h1
    have hlt : i < l.length := by omega
    have e2 : wrap64 ((i : Int) - 1) = ((i - 1 : Nat) : Int) := by rw [w64 (by omega) (by omega)]; omega
    by_cases hle : l.getD i 0 ≤ l.getD (i - 1) 0
    · refine ⟨false, Ev.step (f := fun _ => some false) (fun k => ?_) (Ev.now _), ?_⟩
      · rw [impl_isRising.l0, if_pos (by omega), if_pos (by omega), e2, if_pos (by omega), if_pos (by omega), rdN, rdN, if_pos hle]
      · simp only [Bool.false_eq_true, false_iff]
        intro h
        have := h i (Nat.le_refl _) hlt
        omega
    · obtain ⟨r, hr, hi'⟩ := ih (i + 1) (by omega) (by omega)
      refine ⟨r, Ev.step (fun k => ?_) hr, ?_⟩
      · rw [impl_isRising.l0, if_pos (by omega), if_pos (by omega), e2, if_pos (by omega), if_pos (by omega), rdN, rdN, if_neg hle, wN i (by omega)]
      · rw [hi']
        refine ⟨fun h j h1 h2 => ?_, fun h j h1 h2 => h j (by omega) h2⟩
        rcases Nat.eq_or_lt_of_le h1 with e | e
        · subst e; omega
        · exact h j e h2
/-- Whether numbers rise. -/
theorem risingI (l : List Int) (hb : l.length ≤ 17592186044415) : ∃ r, Ev (fun k => impl_isRising.f k l) r ∧ (r = true ↔ (∀ j, 0 < j → j < l.length → l.getD (j - 1) 0 < l.getD j 0)) :=
  rising_l0 l hb _ 1 rfl (Nat.le_refl _)

theorem all_getD (p : Int → Bool) (l : List Int) : l.all p = true ↔ ∀ j, j < l.length → p (l.getD j 0) = true := by
  rw [List.all_eq_true]
  constructor
  · exact fun h j hj => h _ (getD_mem l j hj)
  · intro h x hx
    obtain ⟨j, hj, e⟩ := List.getElem_of_mem hx
    have := h j hj
    rwa [getD_eq l j hj, e] at this

theorem implVV (l : List Int) (hb : l.length ≤ 17592186044415) : ∃ r, Ev (fun k => impl_ValidValues.f k l) r ∧ (r = true ↔ VV l) := by
  obtain ⟨r, hr, hi⟩ := risingI l hb
  obtain ⟨K, hr⟩ := EvG hr
  have hs : impl_size_int64.f l = some (l.length : Int) := rfl
  by_cases h1 : 1 ≤ l.length ∧ l.length ≤ 8
  · have e1 : (decide ((1 : Int) ≤ (l.length : Int)) && decide ((l.length : Int) ≤ 8)) = true := by
      simp only [Bool.and_eq_true, decide_eq_true_eq]; omega
    by_cases h2 : (l.all fun x => decide (1 ≤ x) && decide (x ≤ 500)) = true
    · refine ⟨r, EvI K fun k hk => ?_, ?_⟩
      · rw [impl_ValidValues.f, hs, Option.bind_some, withinF, Option.bind_some, if_pos e1, impl_areWithin.f, Option.bind_some, if_pos h2, hr k hk]; rfl
      · rw [hi]
        rw [all_getD] at h2
        refine ⟨fun h => ⟨h1.1, h1.2, fun j hj => by simpa using h2 j hj, h⟩, fun h => h.2.2.2⟩
    · refine ⟨false, EvI 0 fun k hk => ?_, ?_⟩
      · rw [impl_ValidValues.f, hs, Option.bind_some, withinF, Option.bind_some, if_pos e1, impl_areWithin.f, Option.bind_some, if_neg h2]
      · simp only [Bool.false_eq_true, false_iff]
        intro h
        rw [all_getD] at h2
        exact h2 fun j hj => by simpa using h.2.2.1 j hj
  · have e1 : ¬ ((decide ((1 : Int) ≤ (l.length : Int)) && decide ((l.length : Int) ≤ 8)) = true) := by
      simp only [Bool.and_eq_true, decide_eq_true_eq]; omega
    refine ⟨false, EvI 0 fun k hk => ?_, ?_⟩
    · rw [impl_ValidValues.f, hs, Option.bind_some, withinF, Option.bind_some, if_neg e1]
    · simp only [Bool.false_eq_true, false_iff]
      exact fun h => h1 ⟨h.1, h.2.1⟩

/-- Both say the same of values. -/
theorem bothVV (l : List Int) (hb : l.length ≤ 17592186044415) : ∃ r, Ev (fun k => spec_l01Values.f k l) r ∧ Ev (fun k => impl_ValidValues.f k l) r ∧ (r = true ↔ VV l) := by
  obtain ⟨r, h1, h2⟩ := specVV l hb
  obtain ⟨r', h1', h2'⟩ := implVV l hb
  obtain rfl : r = r' := by rw [Bool.eq_iff_iff, h2, h2']
  exact ⟨r, h1, h1', h2⟩

/-- Both give the same code to values and a number from 0 on: 0 just where all is well. -/
theorem bothCode (l : List Int) (n most : Int) (hb : l.length ≤ 17592186044415) : ∃ c, Ev (fun k => spec_l01Asked.f k l (decide (0 ≤ n) && decide (n ≤ most))) c ∧ Ev (fun k => impl_valuesCode.f k l n most) c ∧ (c = 0 ↔ VV l ∧ 0 ≤ n ∧ n ≤ most) := by
  obtain ⟨r, h1, h2, h3⟩ := bothVV l hb
  obtain ⟨K1, h1⟩ := EvG h1
  obtain ⟨K2, h2⟩ := EvG h2
  cases r with
  | false =>
    refine ⟨1, EvI K1 fun k hk => ?_, EvI K2 fun k hk => ?_, ?_⟩
    · rw [spec_l01Asked.f, h1 k hk]; rfl
    · rw [impl_valuesCode.f, h2 k hk]; rfl
    · constructor
      · intro h; cases h
      · intro h; exact absurd (h3.2 h.1) (by simp)
  | true =>
    have hv := h3.1 rfl
    by_cases hn : 0 ≤ n ∧ n ≤ most
    · have e : (decide (0 ≤ n) && decide (n ≤ most)) = true := by simp [hn.1, hn.2]
      refine ⟨0, EvI K1 fun k hk => ?_, EvI K2 fun k hk => ?_, ⟨fun _ => ⟨hv, hn.1, hn.2⟩, fun _ => rfl⟩⟩
      · rw [spec_l01Asked.f, h1 k hk, e]; rfl
      · rw [impl_valuesCode.f, h2 k hk, Option.bind_some, if_pos rfl, withinF, Option.bind_some, e]; rfl
    · have e : (decide (0 ≤ n) && decide (n ≤ most)) = false := by
        rw [Bool.eq_false_iff]; intro h; simp at h; exact hn h
      refine ⟨2, EvI K1 fun k hk => ?_, EvI K2 fun k hk => ?_, ?_⟩
      · rw [spec_l01Asked.f, h1 k hk, e]; rfl
      · rw [impl_valuesCode.f, h2 k hk, Option.bind_some, if_pos rfl, withinF, Option.bind_some, e]; rfl
      · constructor
        · intro h; cases h
        · intro h; exact absurd h.2 hn
theorem postageF (n : Int) : spec_l01Postage.f n = some (decide (0 ≤ n) && decide (n ≤ 1000)) := by
  rw [spec_l01Postage.f, inF]; rfl

end Go.Proofs.Ytnhcdfikjfjkoaa.Pure

namespace Go.Proofs.Ytnhcdfikjfjkoaa.Pure
open Go.RowKit Go.Proofs.Ytnhcdfikjfjkoaa.P Go.Proofs.YtnhcdfikjfjkoaaW.PrintWords Go.Proofs.YtnhcdfikjfjkoaaW.PrintLast
set_option linter.unusedVariables false
set_option linter.unusedSimpArgs false

/-- The numbers of a stock are sixteen bits wide. -/
def Wf (l : List S56) : Prop := ∀ x ∈ l, (-32768 ≤ x.f0 ∧ x.f0 ≤ 32767) ∧ (-32768 ≤ x.f1 ∧ x.f1 ≤ 32767)
theorem Wf.at {l : List S56} (h : Wf l) (i : Nat) (hi : i < l.length) : (-32768 ≤ (l.getD i z56).f0 ∧ (l.getD i z56).f0 ≤ 32767) ∧ (-32768 ≤ (l.getD i z56).f1 ∧ (l.getD i z56).f1 ≤ 32767) := by
  rw [getD_eqG z56 l i hi]; exact h _ (List.getElem_mem hi)
theorem Wf.cv {l : List S58} (h : ∀ x ∈ l, (Lit.int .i16 x.f0).wf = true ∧ (Lit.int .i16 x.f1).wf = true) : Wf (l.map cv) := by
  intro x hx
  obtain ⟨y, hy, rfl⟩ := List.mem_map.1 hx
  exact ⟨bounds_i16 (h y hy).1, bounds_i16 (h y hy).2⟩
theorem map_getD (l : List S56) (f : S56 → Int) (i : Nat) (hi : i < l.length) : (l.map f).getD i 0 = f (l.getD i z56) := by
  rw [getD_eq _ i (by rw [List.length_map]; exact hi), List.getElem_map, getD_eqG z56 l i hi]
/-- A stock is valid. -/
def SV (l : List S56) : Prop :=
  l.length ≤ 8 ∧ (∀ j, j < l.length → (1 ≤ (l.getD j z56).f0 ∧ (l.getD j z56).f0 ≤ 500) ∧ (0 ≤ (l.getD j z56).f1 ∧ (l.getD j z56).f1 ≤ 50)) ∧ (∀ j, 0 < j → j < l.length → (l.getD (j - 1) z56).f0 < (l.getD j z56).f0)

theorem purse_l0 (l : List S56) (hw : Wf l) (hb : l.length ≤ 4398046511104) : ∀ d i (x y : List Int), l.length - i = d → i ≤ l.length → x = (l.take i).map S56.f0 → y = (l.take i).map S56.f1 →
    Ev (fun k => impl_purseOf.l0 k l (l.length : Int) (i : Int) x y) (l.map S56.f0, l.map S56.f1) := by
  intro d
  induction d with
  | zero =>
    intro i x y hd hi hx hy
    obtain rfl : i = l.length := by omega
    rw [List.take_length] at hx hy
    subst hx hy
    refine Ev.step (f := fun _ => some (l.map S56.f0, l.map S56.f1)) (fun k => ?_) (Ev.now _)
    rw [impl_purseOf.l0, if_neg (by omega)]
  | succ d ih =>
    intro i x y hd hi hx hy
    have hlt : i < l.length := by omega
    obtain ⟨h0, h1⟩ := hw.at i hlt
    have e0 : wrap64 (l.getD i z56).f0 = (l.getD i z56).f0 := w64 (by omega) (by omega)
    have e1 : wrap64 (l.getD i z56).f1 = (l.getD i z56).f1 := w64 (by omega) (by omega)
    have et : l.take (i + 1) = l.take i ++ [l.getD i z56] := by
      rw [List.take_add_one, List.getD_eq_getElem?_getD, List.getElem?_eq_getElem hlt]; rfl
    have lx : x.length = i := by rw [hx, List.length_map, List.length_take]; omega
    have ly : y.length = i := by rw [hy, List.length_map, List.length_take]; omega
    refine Ev.step (fun k => ?_) (ih (i + 1) (x ++ [(l.getD i z56).f0]) (y ++ [(l.getD i z56).f1]) (by omega) (by omega) (by rw [et, List.map_append, ← hx]; rfl) (by rw [et, List.map_append, ← hy]; rfl))
    rw [impl_purseOf.l0, if_pos (by omega), if_pos (by omega), if_pos (by omega), rdS, e0, e1, Option.bind_some, if_pos (by simp; omega), Option.bind_some, if_pos (by simp; omega), wN i (by omega)]
theorem purseF (l : List S56) (hw : Wf l) (hb : l.length ≤ 4398046511104) : Ev (fun k => impl_purseOf.f k l) (l.map S56.f0, l.map S56.f1) :=
  purse_l0 l hw hb _ 0 [] [] rfl (Nat.zero_le _) rfl rfl

theorem stock_l0 (l : List S56) (hw : Wf l) (hb : l.length ≤ 4398046511104) : ∀ d i, l.length - i = d → i ≤ l.length →
    ∃ r, Ev (fun k => spec_l01Stock.l0 k l (i : Int)) r ∧ (r = true ↔ (∀ j, i ≤ j → j < l.length → ((1 ≤ (l.getD j z56).f0 ∧ (l.getD j z56).f0 ≤ 500) ∧ (0 ≤ (l.getD j z56).f1 ∧ (l.getD j z56).f1 ≤ 50)) ∧ (0 < j → (l.getD (j - 1) z56).f0 < (l.getD j z56).f0)) ∧ l.length ≤ 8) := by
  intro d
  induction d with
  | zero =>
    intro i hd hi
    refine ⟨decide ((l.length : Int) ≤ 8), Ev.step (f := fun _ => some (decide ((l.length : Int) ≤ 8))) (fun k => ?_) (Ev.now _), ?_⟩
    · rw [spec_l01Stock.l0, if_neg (by omega)]
    · rw [decide_eq_true_eq]
      exact ⟨fun h => ⟨fun j h1 h2 => by omega, by omega⟩, fun h => by have := h.2; omega⟩
  | succ d ih =>
    intro i hd hi
    have hlt : i < l.length := by omega
    obtain ⟨h0, h1⟩ := hw.at i hlt
    have e0 : wrap64 (l.getD i z56).f0 = (l.getD i z56).f0 := w64 (by omega) (by omega)
    have e1 : wrap64 (l.getD i z56).f1 = (l.getD i z56).f1 := w64 (by omega) (by omega)
    have estep : ∀ k, spec_l01Stock.l0 (k + 1) l (i : Int) = spec_l01Stock.j1 k l (i : Int) (!((decide (1 ≤ (l.getD i z56).f0) && decide ((l.getD i z56).f0 ≤ 500)) && (decide (0 ≤ (l.getD i z56).f1) && decide ((l.getD i z56).f1 ≤ 50)))) := fun k => by
      rw [spec_l01Stock.l0, if_pos (by omega), if_pos (by omega), rdS, e0, e1, inF, Option.bind_some]
      cases (decide (1 ≤ (l.getD i z56).f0) && decide ((l.getD i z56).f0 ≤ 500)) with
      | false => rw [if_neg (by simp), Bool.false_and]; rfl
      | true => rw [if_pos rfl, inF, Option.bind_some, Bool.true_and]
    by_cases hin : (1 ≤ (l.getD i z56).f0 ∧ (l.getD i z56).f0 ≤ 500) ∧ (0 ≤ (l.getD i z56).f1 ∧ (l.getD i z56).f1 ≤ 50)
    · have eb : (!((decide (1 ≤ (l.getD i z56).f0) && decide ((l.getD i z56).f0 ≤ 500)) && (decide (0 ≤ (l.getD i z56).f1) && decide ((l.getD i z56).f1 ≤ 50)))) = false := by
        simp only [hin.1.1, hin.1.2, hin.2.1, hin.2.2, decide_true, Bool.and_self, Bool.not_true]
      rw [eb] at estep
      rcases Nat.eq_zero_or_pos i with hz | hz
      · subst hz
        obtain ⟨r, hr, hi'⟩ := ih 1 (by omega) (by omega)
        refine ⟨r, Ev.step estep (Ev.step (g := fun k => spec_l01Stock.j1 k l ((0 : Nat) : Int) false) (fun k => ?_) hr), ?_⟩
        · rw [spec_l01Stock.j1, if_neg (by simp), if_neg (by omega), wN 0 (by omega)]
        · rw [hi']
          refine ⟨fun h => ⟨fun j q1 q2 => ?_, h.2⟩, fun h => ⟨fun j q1 q2 => h.1 j (by omega) q2, h.2⟩⟩
          rcases Nat.eq_zero_or_pos j with e | e
          · subst e; exact ⟨hin, fun h => absurd h (Nat.lt_irrefl 0)⟩
          · exact h.1 j e q2
      · have e2 : wrap64 ((i : Int) - 1) = ((i - 1 : Nat) : Int) := by rw [w64 (by omega) (by omega)]; omega
        by_cases hle : (l.getD i z56).f0 ≤ (l.getD (i - 1) z56).f0
        · refine ⟨false, Ev.step estep (Ev.step (f := fun _ => some false) (g := fun k => spec_l01Stock.j1 k l (i : Int) false) (fun k => ?_) (Ev.now _)), ?_⟩
          · rw [spec_l01Stock.j1, if_neg (by simp), if_pos (by omega), if_pos (by omega), if_pos (by omega), e2, if_pos (by omega), if_pos (by omega), rdS, rdS, if_pos hle]
          · simp only [Bool.false_eq_true, false_iff]
            intro h
            have := (h.1 i (Nat.le_refl _) hlt).2 hz
            omega
        · obtain ⟨r, hr, hi'⟩ := ih (i + 1) (by omega) (by omega)
          refine ⟨r, Ev.step estep (Ev.step (g := fun k => spec_l01Stock.j1 k l (i : Int) false) (fun k => ?_) hr), ?_⟩
          · rw [spec_l01Stock.j1, if_neg (by simp), if_pos (by omega), if_pos (by omega), if_pos (by omega), e2, if_pos (by omega), if_pos (by omega), rdS, rdS, if_neg hle, wN i (by omega)]
          · rw [hi']
            refine ⟨fun h => ⟨fun j q1 q2 => ?_, h.2⟩, fun h => ⟨fun j q1 q2 => h.1 j (by omega) q2, h.2⟩⟩
            rcases Nat.eq_or_lt_of_le q1 with e | e
            · subst e; exact ⟨hin, fun _ => by omega⟩
            · exact h.1 j e q2
    · have eb : (!((decide (1 ≤ (l.getD i z56).f0) && decide ((l.getD i z56).f0 ≤ 500)) && (decide (0 ≤ (l.getD i z56).f1) && decide ((l.getD i z56).f1 ≤ 50)))) = true := by
        rw [Bool.not_eq_true']
        apply Classical.byContradiction
        intro hn
        apply hin
        simpa [and_assoc] using hn
      rw [eb] at estep
      refine ⟨false, Ev.step estep (Ev.step (f := fun _ => some false) (g := fun k => spec_l01Stock.j1 k l (i : Int) true) (fun k => ?_) (Ev.now _)), ?_⟩
      · rw [spec_l01Stock.j1, if_pos rfl]
      · simp only [Bool.false_eq_true, false_iff]
        intro h
        exact hin (h.1 i (Nat.le_refl _) hlt).1

theorem specStock (l : List S56) (hw : Wf l) (hb : l.length ≤ 4398046511104) : ∃ r, Ev (fun k => spec_l01Stock.f k l) r ∧ (r = true ↔ SV l) := by
  obtain ⟨r, hr, hi⟩ := stock_l0 l hw hb _ 0 rfl (Nat.zero_le _)
  exact ⟨r, hr, hi.trans ⟨fun h => ⟨h.2, fun j hj => (h.1 j (Nat.zero_le _) hj).1, fun j h0 hj => (h.1 j (Nat.zero_le _) hj).2 h0⟩, fun h => ⟨fun j _ hj => ⟨h.2.1 j hj, fun h0 => h.2.2 j h0 hj⟩, h.1⟩⟩⟩

theorem areW (l : List Int) (a b : Int) : ∃ r, impl_areWithin.f l a b = some r ∧ (r = true ↔ ∀ j, j < l.length → a ≤ l.getD j 0 ∧ l.getD j 0 ≤ b) := by
  refine ⟨_, rfl, ?_⟩
  rw [all_getD]
  simp only [Bool.and_eq_true, decide_eq_true_eq]

theorem implStock (l : List S56) (hw : Wf l) (hb : l.length ≤ 4398046511104) : ∃ r, Ev (fun k => impl_ValidStock.f k l) r ∧ (r = true ↔ SV l) := by
  obtain ⟨K1, h1⟩ := EvG (purseF l hw hb)
  obtain ⟨r1, a1, b1⟩ := areW (l.map S56.f0) 1 500
  obtain ⟨r2, a2, b2⟩ := risingI (l.map S56.f0) (by rw [List.length_map]; omega)
  obtain ⟨r3, a3, b3⟩ := areW (l.map S56.f1) 0 50
  obtain ⟨K2, a2⟩ := EvG a2
  rw [List.length_map] at b1 b2 b3
  have c1 : r1 = true ↔ ∀ j, j < l.length → 1 ≤ (l.getD j z56).f0 ∧ (l.getD j z56).f0 ≤ 500 := by
    rw [b1]
    exact ⟨fun h j hj => by have := h j hj; rwa [map_getD l S56.f0 j hj] at this, fun h j hj => by rw [map_getD l S56.f0 j hj]; exact h j hj⟩
  have c3 : r3 = true ↔ ∀ j, j < l.length → 0 ≤ (l.getD j z56).f1 ∧ (l.getD j z56).f1 ≤ 50 := by
    rw [b3]
    exact ⟨fun h j hj => by have := h j hj; rwa [map_getD l S56.f1 j hj] at this, fun h j hj => by rw [map_getD l S56.f1 j hj]; exact h j hj⟩
  have c2 : r2 = true ↔ ∀ j, 0 < j → j < l.length → (l.getD (j - 1) z56).f0 < (l.getD j z56).f0 := by
    rw [b2]
    exact ⟨fun h j h0 hj => by have := h j h0 hj; rwa [map_getD l S56.f0 j hj, map_getD l S56.f0 (j - 1) (by omega)] at this, fun h j h0 hj => by rw [map_getD l S56.f0 j hj, map_getD l S56.f0 (j - 1) (by omega)]; exact h j h0 hj⟩
  refine ⟨decide (l.length ≤ 8) && r1 && r2 && r3, EvI (K1 + K2) fun k hk => ?_, ?_⟩
  · rw [impl_ValidStock.f, h1 k (by omega), Option.bind_some]
    by_cases h8 : l.length ≤ 8
    · rw [if_pos (by omega), a1, Option.bind_some, a2 k (by omega), a3]
      simp only [h8, decide_true, Bool.true_and, Option.bind_some]
      cases r1 <;> cases r2 <;> rfl
    · rw [if_neg (by omega)]
      simp only [h8, decide_false, Bool.false_and]
  · simp only [Bool.and_eq_true, decide_eq_true_eq]
    rw [c1, c2, c3]
    exact ⟨fun h => ⟨h.1.1.1, fun j hj => ⟨h.1.1.2 j hj, h.2 j hj⟩, h.1.2⟩, fun h => ⟨⟨⟨h.1, fun j hj => (h.2.1 j hj).1⟩, h.2.2⟩, fun j hj => (h.2.1 j hj).2⟩⟩

theorem bothStock (l : List S56) (hw : Wf l) (hb : l.length ≤ 4398046511104) : ∃ r, Ev (fun k => spec_l01Stock.f k l) r ∧ Ev (fun k => impl_ValidStock.f k l) r ∧ (r = true ↔ SV l) := by
  obtain ⟨r, h1, h2⟩ := specStock l hw hb
  obtain ⟨s, h3, h4⟩ := implStock l hw hb
  have : r = s := Bool.eq_iff_iff.2 (h2.trans h4.symm)
  subst this
  exact ⟨r, h1, h3, h2⟩

end Go.Proofs.Ytnhcdfikjfjkoaa.Pure

namespace Go.Proofs.Ytnhcdfikjfjkoaa.P
open Go.RowKit Go.Proofs.YtnhcdfikjfjkoaaW.PrintWords Go.Proofs.YtnhcdfikjfjkoaaW.PrintLast Go.Proofs.YtnhcdfikjfjkoaaW.PrintMore
attribute [local go_sem] max2_int min2_int max_two min_two max_three min_three max_four min_four   -- for this text's walks alone
set_option linter.unusedVariables false
set_option linter.unusedSimpArgs false

/-! ### laws_heldStampS: function 34 -/
def laws_heldStampS.l0 : Nat → List (S56) → Int → Int → Option (Int)
  | 0, _, _, _ => none
  | k + 1, x0, x1, x5 => if x5 < (x0.length : Int) then (if 0 ≤ x5 then (if ((rd_T56 x0 x5).f0) = (IntKind.i16.wrap (x1)) then (if ((rd_T56 x0 x5).f1) = (IntKind.i16.wrap (wrap64 (x1 + 1))) then (laws_heldStampS.l0 k x0 (wrap64 ((wrap64 (x1 + 1)) + 1)) (wrap64 (x5 + 1))) else (some (-1))) else (some (-1))) else (none)) else (some x1)
def laws_heldStampS.f (k : Nat) (l0 : List (S56)) (a1 : Int) : Option (Int) := laws_heldStampS.l0 k l0 a1 0
theorem laws_heldStampS.mono_l : ∀ k, (∀ y0 y1 y2, LeO (laws_heldStampS.l0 k y0 y1 y2) (laws_heldStampS.l0 (k + 1) y0 y1 y2))
  | 0 => fun _ _ _ r h => by simp [laws_heldStampS.l0] at h
  | k + 1 => by
    have ih0 := laws_heldStampS.mono_l k
    · intro y0 y1 y2
      unfold laws_heldStampS.l0
      repeat' first
      | (with_reducible exact ih0 _ _ _)
      | (with_reducible exact LeO.refl _)
      | (with_reducible exact LeO.none _)
      | (with_reducible refine LeO.ite ?_ ?_)
      | (with_reducible refine LeO.bind ?_ (fun _ => ?_))
      | exact ih0 _ _ _
      | exact LeO.none _
      | refine LeO.ite ?_ ?_
      | refine LeO.bind ?_ (fun _ => ?_)
theorem laws_heldStampS.mono : ∀ a0 a1 k, LeO (laws_heldStampS.f k a0 a1) (laws_heldStampS.f (k + 1) a0 a1) := by
  intro a0 a1 k
  have ih0 := laws_heldStampS.mono_l k
  unfold laws_heldStampS.f
  repeat' first
      | (with_reducible exact ih0 _ _ _)
      | (with_reducible exact LeO.refl _)
      | (with_reducible exact LeO.none _)
      | (with_reducible refine LeO.ite ?_ ?_)
      | (with_reducible refine LeO.bind ?_ (fun _ => ?_))
      | exact ih0 _ _ _
      | exact LeO.none _
      | refine LeO.ite ?_ ?_
      | refine LeO.bind ?_ (fun _ => ?_)
set_option maxHeartbeats 8000000 in
set_option maxRecDepth 100000 in
theorem laws_heldStampS.calls (k : Nat) (A0 : Option Addr) (c0 : Nat) (l0 : List (S56)) (a1 : Int) (r : Int) (w : World) (hr0 : Kd.C k56 w A0 l0.length l0) (hc0 : l0.length ≤ c0) (h : laws_heldStampS.f k l0 a1 = some r) :
    Calls Try.prog 34 #[.slice A0 l0.length c0, .int .i64 a1] w fun e w' => e = .returned (.int .i64 r) ∧ Drawn0 w w' := by
  have HR0 := Aside0.mk hr0
  have HC0 := Aside0.mk hc0
  clear hr0 hc0
  have H : (laws_heldStampS.l0 k l0 a1 0) = some r := h
  clear h
  have H' := Aside0.mk H
  clear H
  go_enter Try.func34, Try.ntmps34
  go_wp2
  go_loopg [1, 5] k (fun kq v1 v5 w' => ∃ (x1_1 : Int) (x5_1 : Int), v1 = .int .i64 x1_1 ∧ v5 = .int .i64 x5_1 ∧ Aside0 (laws_heldStampS.l0 kq l0 x1_1 x5_1 = some r) ∧ Aside0 (kq ≤ k) ∧ Drawn0 w w')
  case atStart => exact ⟨(a1), (0), (by first | rfl | (simp; done) | (simp [*]; done)), (by first | rfl | (simp; done) | (simp [*]; done)), H', ⟨Nat.le_refl _⟩, by repeat (first | exact Drawn0.refl _ | apply Drawn0.step)⟩
  case round =>
    clear H'
    try clear p2
    obtain ⟨x1_1, x5_1, rfl, rfl, HA, HK1, ⟨m1, rfl⟩⟩ := hrel
    cases gk with
    | zero => exact absurd HA.out (by simp [laws_heldStampS.l0])
    | succ k1 =>
      have H := HA.out
      clear HA
      simp only [laws_heldStampS.l0] at H
      by_cases c3 : x5_1 < (l0.length : Int)
      rotate_left
      · rw [if_neg c3] at H
        have c3b0 : decide (x5_1 < (l0.length : Int)) = false := decide_eq_false c3
        clear c3
        obtain rfl := Option.some.inj H
        go_wp2
        go_ret
        exact ⟨by first | rfl | (simp; done) | (simp [*]; done), by repeat (first | exact Drawn0.refl _ | apply Drawn0.step)⟩

      rw [if_pos c3] at H
      have c3b0 : decide (x5_1 < (l0.length : Int)) = true := decide_eq_true c3
      clear c3
      by_cases c4 : 0 ≤ x5_1
      rotate_left
      · rw [if_neg c4] at H
        exact absurd H (by simp)
      rw [if_pos c4] at H
      have c4b0 : decide (0 ≤ x5_1) = true := decide_eq_true c4
      clear c4
      by_cases c5 : ((rd_T56 l0 x5_1).f0) = (IntKind.i16.wrap (x1_1))
      rotate_left
      · rw [if_neg c5] at H
        have c5b0 : (((rd_T56 l0 x5_1).f0) == (IntKind.i16.wrap (x1_1))) = false := beq_eq_false_iff_ne.mpr c5
        have c5b1 : (((rd_T56 l0 x5_1).f0) != (IntKind.i16.wrap (x1_1))) = true := bne_iff_ne.mpr c5
        obtain rfl := Option.some.inj H
        have p633 : 0 ≤ (x5_1 : Int) := of_decide_eq_true (by first | (with_reducible assumption) | assumption)
        have q633 : x5_1 < (l0.length : Int) := of_decide_eq_true (by first | (with_reducible assumption) | assumption)
        obtain ⟨ad633, e633, hx633_0, hx633_1⟩ := at_T56 HR0.out x5_1 p633 q633
        cases e633
        replace p633 := eq_true p633
        replace q633 := eq_true q633
        go_wp2
        go_ret
        exact ⟨by first | rfl | (simp; done) | (simp [*]; done), by repeat (first | exact Drawn0.refl _ | apply Drawn0.step)⟩
      rw [if_pos c5] at H
      have c5b0 : (((rd_T56 l0 x5_1).f0) == (IntKind.i16.wrap (x1_1))) = true := beq_iff_eq.mpr c5
      have c5b1 : (((rd_T56 l0 x5_1).f0) != (IntKind.i16.wrap (x1_1))) = false := bne_eq_false_iff_eq.mpr c5
      clear c5
      by_cases c6 : ((rd_T56 l0 x5_1).f1) = (IntKind.i16.wrap (wrap64 (x1_1 + 1)))
      rotate_left
      · rw [if_neg c6] at H
        have c6b0 : (((rd_T56 l0 x5_1).f1) == (IntKind.i16.wrap (wrap64 (x1_1 + 1)))) = false := beq_eq_false_iff_ne.mpr c6
        have c6b1 : (((rd_T56 l0 x5_1).f1) != (IntKind.i16.wrap (wrap64 (x1_1 + 1)))) = true := bne_iff_ne.mpr c6
        obtain rfl := Option.some.inj H
        have p633 : 0 ≤ (x5_1 : Int) := of_decide_eq_true (by first | (with_reducible assumption) | assumption)
        have q633 : x5_1 < (l0.length : Int) := of_decide_eq_true (by first | (with_reducible assumption) | assumption)
        obtain ⟨ad633, e633, hx633_0, hx633_1⟩ := at_T56 HR0.out x5_1 p633 q633
        cases e633
        replace p633 := eq_true p633
        replace q633 := eq_true q633
        have p634 : 0 ≤ (x5_1 : Int) := of_decide_eq_true (by first | (with_reducible assumption) | assumption)
        have q634 : x5_1 < (l0.length : Int) := of_decide_eq_true (by first | (with_reducible assumption) | assumption)
        obtain ⟨ad634, e634, hx634_0, hx634_1⟩ := at_T56 HR0.out x5_1 p634 q634
        obtain rfl : ad633 = ad634 := (by injection e634)
        replace p634 := eq_true p634
        replace q634 := eq_true q634
        go_wp2
        go_ret
        exact ⟨by first | rfl | (simp; done) | (simp [*]; done), by repeat (first | exact Drawn0.refl _ | apply Drawn0.step)⟩
      rw [if_pos c6] at H
      have c6b0 : (((rd_T56 l0 x5_1).f1) == (IntKind.i16.wrap (wrap64 (x1_1 + 1)))) = true := beq_iff_eq.mpr c6
      have c6b1 : (((rd_T56 l0 x5_1).f1) != (IntKind.i16.wrap (wrap64 (x1_1 + 1)))) = false := bne_eq_false_iff_eq.mpr c6
      clear c6
      have H' := Aside0.mk H
      clear H
      have p633 : 0 ≤ (x5_1 : Int) := of_decide_eq_true (by first | (with_reducible assumption) | assumption)
      have q633 : x5_1 < (l0.length : Int) := of_decide_eq_true (by first | (with_reducible assumption) | assumption)
      obtain ⟨ad633, e633, hx633_0, hx633_1⟩ := at_T56 HR0.out x5_1 p633 q633
      cases e633
      replace p633 := eq_true p633
      replace q633 := eq_true q633
      have p634 : 0 ≤ (x5_1 : Int) := of_decide_eq_true (by first | (with_reducible assumption) | assumption)
      have q634 : x5_1 < (l0.length : Int) := of_decide_eq_true (by first | (with_reducible assumption) | assumption)
      obtain ⟨ad634, e634, hx634_0, hx634_1⟩ := at_T56 HR0.out x5_1 p634 q634
      obtain rfl : ad633 = ad634 := (by injection e634)
      replace p634 := eq_true p634
      replace q634 := eq_true q634
      go_wp2
      go_roundg k1
      case measure => have := HK1.out; omega
      case rel => exact ⟨(wrap64 ((wrap64 (x1_1 + 1)) + 1)), (wrap64 (x5_1 + 1)), (by first | rfl | (simp; done) | (simp [*]; done)), (by first | rfl | (simp; done) | (simp [*]; done)), H', ⟨by have := HK1.out; omega⟩, by repeat (first | exact Drawn0.refl _ | apply Drawn0.step)⟩
end Go.Proofs.Ytnhcdfikjfjkoaa.P

namespace Go.Proofs.Ytnhcdfikjfjkoaa.Pure
open Go.RowKit Go.Proofs.Ytnhcdfikjfjkoaa.P Go.Proofs.YtnhcdfikjfjkoaaW.PrintWords Go.Proofs.YtnhcdfikjfjkoaaW.PrintLast
set_option linter.unusedVariables false
set_option linter.unusedSimpArgs false

/-- The marks of the stamp at a place. -/
def mkE (m : Nat) : S56 := ⟨IntKind.i16.wrap (m : Int), IntKind.i16.wrap ((m + 1 : Nat) : Int)⟩
def mkS (n : Nat) : List S56 := (List.range n).map fun i => mkE (1 + 2 * i)
theorem mkS_len (n : Nat) : (mkS n).length = n := by simp [mkS]
theorem mkS_at (n i : Nat) (h : i < n) : (mkS n).getD i z56 = mkE (1 + 2 * i) := by
  simp [mkS, List.getD_eq_getElem?_getD, h]
theorem markS_l0 (n : Nat) (hb : n ≤ 2000000) : ∀ d i x, n - i = d → i ≤ n → x.length = n → (∀ j, j < i → x.getD j z56 = mkE (1 + 2 * j)) →
    Ev (fun k => laws_markStampS.l0 k x ((1 + 2 * i : Nat) : Int) (i : Int)) (((1 + 2 * n : Nat) : Int), mkS n) := by
  intro d
  induction d with
  | zero =>
    intro i x hd hi hx hj
    obtain rfl : i = n := by omega
    refine Ev.step (f := fun _ => some (((1 + 2 * i : Nat) : Int), x)) (fun k => ?_) ?_
    · rw [laws_markStampS.l0, if_neg (by omega)]
    · have : x = mkS i := list_extG z56 x _ (by rw [mkS_len]; exact hx) (fun j h => by rw [mkS_len] at h; rw [hj j h, mkS_at i j h])
      rw [this]; exact Ev.now _
  | succ d ih =>
    intro i x hd hi hx hj
    refine Ev.step (fun k => ?_) (ih (i + 1) (x.set i (mkE (1 + 2 * i))) (by omega) (by omega) (by simpa using hx) ?_)
    · rw [laws_markStampS.l0, if_pos (by omega), if_pos (by omega), Option.bind_some]
      rw [wN (1 + 2 * i) (by omega), wN (1 + 2 * i + 1) (by omega), wN i (by omega)]
      simp only [Int.toNat_natCast, rdS]
      rw [getD_setG z56 _ i i _ (by rw [hx]; omega), if_pos rfl, List.set_set]
      rfl
    · intro j h
      rw [getD_setG z56 x i j _ (by omega)]
      by_cases e : i = j
      · rw [if_pos e, e]
      · rw [if_neg e]; exact hj j (by omega)
theorem markS (l : List S56) (hb : l.length ≤ 2000000) : Ev (fun k => laws_markStampS.f k l 1) (((1 + 2 * l.length : Nat) : Int), mkS l.length) :=
  markS_l0 l.length hb _ 0 l rfl (Nat.zero_le _) rfl (fun j h => absurd h (Nat.not_lt_zero _))
theorem heldS_l0 (n : Nat) (hb : n ≤ 2000000) : ∀ d i, n - i = d → i ≤ n → Ev (fun k => laws_heldStampS.l0 k (mkS n) ((1 + 2 * i : Nat) : Int) (i : Int)) ((1 + 2 * n : Nat) : Int) := by
  intro d
  induction d with
  | zero =>
    intro i hd hi
    obtain rfl : i = n := by omega
    refine Ev.step (f := fun _ => some (((1 + 2 * i : Nat) : Int))) (fun k => ?_) (Ev.now _)
    rw [laws_heldStampS.l0, mkS_len, if_neg (by omega)]
  | succ d ih =>
    intro i hd hi
    refine Ev.step (fun k => ?_) (ih (i + 1) (by omega) (by omega))
    rw [laws_heldStampS.l0, mkS_len, if_pos (by omega), if_pos (by omega), rdS, mkS_at n i (by omega), wN (1 + 2 * i) (by omega), wN (1 + 2 * i + 1) (by omega), wN i (by omega), if_pos (show (mkE (1 + 2 * i)).f0 = IntKind.i16.wrap ((1 + 2 * i : Nat) : Int) from rfl), if_pos (show (mkE (1 + 2 * i)).f1 = IntKind.i16.wrap ((1 + 2 * i + 1 : Nat) : Int) from rfl)]
    rfl
theorem heldS (n : Nat) (hb : n ≤ 2000000) : Ev (fun k => laws_heldStampS.f k (mkS n) 1) ((1 + 2 * n : Nat) : Int) :=
  heldS_l0 n hb _ 0 rfl (Nat.zero_le _)

end Go.Proofs.Ytnhcdfikjfjkoaa.Pure

namespace Go.Proofs.Ytnhcdfikjfjkoaa.Pure
open Go.RowKit Go.Proofs.Ytnhcdfikjfjkoaa.P Go.Proofs.YtnhcdfikjfjkoaaW.PrintWords Go.Proofs.YtnhcdfikjfjkoaaW.PrintLast
set_option linter.unusedVariables false
set_option linter.unusedSimpArgs false

theorem rdL1 (l : List (List Int)) (i : Nat) : rd_L1 l (i : Int) = l.getD i [] := rfl
theorem rdL7 (l : List (List S77)) (i : Nat) : rd_L7 l (i : Int) = l.getD i [] := rfl
theorem rdP (l : List S77) (i : Nat) : rd_T77 l (i : Int) = l.getD i z77 := rfl
theorem getD_range {α : Type} (f : Nat → α) (n a : Nat) (z : α) (h : a < n) : ((List.range n).map f).getD a z = f a := by
  simp [List.getD_eq_getElem?_getD, h]
/-- The fewest stamps for an amount, where less than K stamps of a kind are tried. -/
def bk (X : List Int) (v a : Nat) : Nat → Int
  | 0 => -1
  | K + 1 => if 0 ≤ X.getD (a - K * v) 0 ∧ (bk X v a K < 0 ∨ X.getD (a - K * v) 0 + (K : Int) < bk X v a K) then X.getD (a - K * v) 0 + (K : Int) else bk X v a K
/-- In how many ways. -/
def wk (Y : List S77) (v a : Nat) : Nat → Int
  | 0 => 0
  | K + 1 => wk Y v a K + (Y.getD (a - K * v) z77).f0
def lk (Y : List S77) (v a : Nat) : Nat → Int
  | 0 => 0
  | K + 1 => if (Y.getD (a - K * v) z77).f0 ≠ 0 ∧ (wk Y v a K = 0 ∨ (Y.getD (a - K * v) z77).f1 + (K : Int) < lk Y v a K) then (Y.getD (a - K * v) z77).f1 + (K : Int) else lk Y v a K
/-- How many numbers of stamps are tried. -/
def nk (v h a : Nat) : Nat := min h (a / v) + 1
theorem nk_lt {v h a K : Nat} (hv : 1 ≤ v) : K < nk v h a ↔ K ≤ h ∧ K * v ≤ a := by
  have := Nat.le_div_iff_mul_le (k := v) (x := K) (y := a) hv
  unfold nk
  omega
theorem nk_le {v h a K : Nat} (hv : 1 ≤ v) (hK : K ≤ nk v h a) : K * v ≤ a + v ∧ K ≤ h + 1 := by
  rcases Nat.eq_zero_or_pos K with rfl | hp
  · simp
  · obtain ⟨j, rfl⟩ : ∃ j, K = j + 1 := ⟨K - 1, by omega⟩
    have := (nk_lt (v := v) (h := h) (a := a) (K := j) hv).1 (by omega)
    rw [Nat.succ_mul]
    omega
def rowS (X : List Int) (v h m : Nat) : List Int := (List.range (m + 1)).map fun a => bk X v a (nk v h a)
def rowI (Y : List S77) (v h m : Nat) : List S77 := (List.range (m + 1)).map fun a => ⟨wk Y v a (nk v h a), lk Y v a (nk v h a)⟩
def headS (vs hs : List Int) (m : Nat) : Nat → List Int
  | 0 => (List.range (m + 1)).map fun a => if a = 0 then 0 else -1
  | k + 1 => rowS (headS vs hs m k) (vs.getD (vs.length - 1 - k) 0).toNat (hs.getD (vs.length - 1 - k) 0).toNat m
def headI (vs hs : List Int) (m : Nat) : Nat → List S77
  | 0 => (List.range (m + 1)).map fun a => ⟨if a = 0 then 1 else 0, 0⟩
  | k + 1 => rowI (headI vs hs m k) (vs.getD (vs.length - 1 - k) 0).toNat (hs.getD (vs.length - 1 - k) 0).toNat m
theorem headS_len (vs hs : List Int) (m k : Nat) : (headS vs hs m k).length = m + 1 := by cases k <;> simp [headS, rowS]
theorem headI_len (vs hs : List Int) (m k : Nat) : (headI vs hs m k).length = m + 1 := by cases k <;> simp [headI, rowI]
/-- How an amount's entries agree. -/
def RelE (B : Nat) (a : Nat) (x : Int) (y : S77) : Prop := (x = -1 ∧ y.f0 = 0) ∨ (0 ≤ x ∧ x ≤ a ∧ 1 ≤ y.f0 ∧ y.f0 ≤ B ∧ y.f1 = x)
def RelRow (B m : Nat) (X : List Int) (Y : List S77) : Prop := ∀ a, a ≤ m → RelE B a (X.getD a 0) (Y.getD a z77)
theorem relK {B m : Nat} {X : List Int} {Y : List S77} (hR : RelRow B m X Y) (v h a : Nat) (hv : 1 ≤ v) (ha : a ≤ m) : ∀ K, K ≤ nk v h a →
    (bk X v a K = -1 ∧ wk Y v a K = 0) ∨ (0 ≤ bk X v a K ∧ bk X v a K ≤ a ∧ 1 ≤ wk Y v a K ∧ wk Y v a K ≤ ((K * B : Nat) : Int) ∧ lk Y v a K = bk X v a K)
  | 0, _ => Or.inl ⟨rfl, rfl⟩
  | K + 1, hK => by
    have ih := relK hR v h a hv ha K (by omega)
    obtain ⟨h1, h2⟩ := (nk_lt (h := h) (a := a) (K := K) hv).1 (by omega)
    have hKv : K ≤ K * v := Nat.le_mul_of_pos_right K hv
    have hB : (K + 1) * B = K * B + B := Nat.succ_mul K B
    have he := hR (a - K * v) (by omega)
    unfold RelE at he
    simp only [bk, wk, lk]
    rcases he with ⟨e1, e2⟩ | ⟨e1, e2, e3, e4, e5⟩
    · rw [if_neg (by omega), if_neg (by omega), e2, Int.add_zero]
      rcases ih with i | ⟨i1, i2, i3, i4, i5⟩
      · exact Or.inl i
      · exact Or.inr ⟨i1, i2, i3, by omega, i5⟩
    · right
      rcases ih with ⟨i1, i2⟩ | ⟨i1, i2, i3, i4, i5⟩
      · rw [if_pos ⟨e1, Or.inl (by omega)⟩, if_pos ⟨by omega, Or.inl i2⟩]
        refine ⟨by omega, by omega, by omega, by omega, by omega⟩
      · by_cases c : X.getD (a - K * v) 0 + (K : Int) < bk X v a K
        · rw [if_pos ⟨e1, Or.inr c⟩, if_pos ⟨by omega, Or.inr (by omega)⟩]
          refine ⟨by omega, by omega, by omega, by omega, by omega⟩
        · rw [if_neg (by omega), if_neg (by omega)]
          refine ⟨by omega, by omega, by omega, by omega, by omega⟩
theorem relRow_step {B B' m : Nat} {X : List Int} {Y : List S77} (hR : RelRow B m X Y) (v h : Nat) (hv : 1 ≤ v) (hB : ∀ a, a ≤ m → nk v h a * B ≤ B') : RelRow B' m (rowS X v h m) (rowI Y v h m) := by
  intro a ha
  have h1 := relK hR v h a hv ha (nk v h a) (Nat.le_refl _)
  have h2 := hB a ha
  unfold rowS rowI
  rw [getD_range _ _ _ _ (by omega), getD_range _ _ _ _ (by omega)]
  rcases h1 with i | ⟨i1, i2, i3, i4, i5⟩
  · exact Or.inl i
  · exact Or.inr ⟨i1, i2, i3, Int.le_trans i4 (Int.ofNat_le.2 h2), i5⟩
theorem relRow_base (vs hs : List Int) (m : Nat) : RelRow 1 m (headS vs hs m 0) (headI vs hs m 0) := by
  intro a ha
  simp only [headS, headI]
  rw [getD_range _ _ _ _ (by omega), getD_range _ _ _ _ (by omega)]
  by_cases e : a = 0
  · exact Or.inr ⟨by simp [e], by simp [e], by simp [e], by simp [e], by simp [e]⟩
  · exact Or.inl ⟨by simp [e], by simp [e]⟩
/-- What is asked of the kinds. -/
structure Kinds (vs hs : List Int) (m : Nat) (B : Nat → Nat) : Prop where
  len : hs.length = vs.length
  val : ∀ i, i < vs.length → 1 ≤ vs.getD i 0 ∧ vs.getD i 0 ≤ 500
  hav : ∀ i, i < vs.length → 0 ≤ hs.getD i 0 ∧ hs.getD i 0 ≤ 2000000000000
  b0 : B 0 = 1
  bs : ∀ k, k < vs.length → ∀ a, a ≤ m → nk (vs.getD (vs.length - 1 - k) 0).toNat (hs.getD (vs.length - 1 - k) 0).toNat a * B k ≤ B (k + 1)
  bb : ∀ k, k ≤ vs.length → B k ≤ 4000000000000000000
theorem relHead {vs hs : List Int} {m : Nat} {B : Nat → Nat} (q : Kinds vs hs m B) : ∀ k, k ≤ vs.length → RelRow (B k) m (headS vs hs m k) (headI vs hs m k)
  | 0, _ => by rw [q.b0]; exact relRow_base vs hs m
  | k + 1, hk => relRow_step (relHead q k (by omega)) _ _ (by have := q.val (vs.length - 1 - k) (by omega); omega) (q.bs k (by omega))
/-- The number of stamps of a kind that the fewest need. -/
theorem bk_found (X : List Int) (v a : Nat) : ∀ K, 0 ≤ bk X v a K → ∃ j, j < K ∧ 0 ≤ X.getD (a - j * v) 0 ∧ X.getD (a - j * v) 0 + (j : Int) = bk X v a K
  | 0, h => by simp [bk] at h
  | K + 1, h => by
    simp only [bk] at h ⊢
    split at h
    · rename_i c
      exact ⟨K, by omega, c.1, by rw [if_pos c]⟩
    · rename_i c
      obtain ⟨j, h1, h2, h3⟩ := bk_found X v a K h
      exact ⟨j, by omega, h2, by rw [if_neg c]; exact h3⟩

end Go.Proofs.Ytnhcdfikjfjkoaa.Pure

namespace Go.Proofs.Ytnhcdfikjfjkoaa.Pure
open Go.RowKit Go.Proofs.Ytnhcdfikjfjkoaa.P Go.Proofs.YtnhcdfikjfjkoaaW.PrintWords Go.Proofs.YtnhcdfikjfjkoaaW.PrintLast
set_option linter.unusedVariables false
set_option linter.unusedSimpArgs false

theorem set_self (x : List Int) (a : Nat) (v : Int) (h : x.getD a 0 = v) (ha : a < x.length) : x.set a v = x := by
  refine list_ext _ _ (by simp) (fun j hj => ?_)
  rw [getD_set _ _ _ _ ha]
  split
  · rename_i e; subst e; exact h.symm
  · rfl
theorem mulC (K v : Nat) : (K : Int) * (v : Int) = ((K * v : Nat) : Int) := (Int.natCast_mul K v).symm
theorem st_l3 (vs hs : List Int) (m i v h : Nat) (hi : i < vs.length) (hl : hs.length = vs.length) (hv : vs.getD i 0 = (v : Int)) (v1 : 1 ≤ v) (v5 : v ≤ 500) (hh : hs.getD i 0 = (h : Int)) (h2 : h ≤ 2000000000000)
    (T : List (List Int)) (X : List Int) (hT : T.getD 0 [] = X) (hT0 : 0 < T.length) (hX : X.length = m + 1) (hXb : ∀ a, a ≤ m → X.getD a 0 ≤ a) (hm : m ≤ 2000) (a : Nat) (ha : a ≤ m) (r : List (List Int)) :
    ∀ d K (x : List Int), nk v h a - K = d → K ≤ nk v h a → x.length = m + 1 → x.getD a 0 = bk X v a K →
      Ev (fun k => spec_l01Table.l2 k vs hs (m : Int) T (i : Int) (x.set a (bk X v a (nk v h a))) ((a + 1 : Nat) : Int)) r → Ev (fun k => spec_l01Table.l3 k vs hs (m : Int) T (i : Int) x (a : Int) (K : Int)) r := by
  intro d
  induction d with
  | zero =>
    intro K x hd hK hx hxa hr
    obtain rfl : K = nk v h a := by omega
    have hb := nk_le v1 (Nat.le_refl (nk v h a))
    have hnot : ¬ (nk v h a ≤ h ∧ nk v h a * v ≤ a) := fun c => by have := (nk_lt v1).2 c; omega
    rw [set_self x a _ hxa (by omega)] at hr
    refine Ev.step (f := fun k => spec_l01Table.j4 k vs hs (m : Int) T (i : Int) x (a : Int) ((nk v h a : Nat) : Int) false) (fun k => ?_) (Ev.step (fun k => ?_) hr)
    · rw [spec_l01Table.l3, if_pos (by omega), if_pos (by omega), rdN, hh]
      by_cases c : ((nk v h a : Nat) : Int) ≤ (h : Int)
      · rw [if_pos c, if_pos (by omega), rdN, hv, mulC, w64 (by omega) (by omega), decide_eq_false (by omega)]
      · rw [if_neg c]
    · rw [spec_l01Table.j4, if_neg (by simp), wN a (by omega)]
  | succ d ih =>
    intro K x hd hK hx hxa hr
    obtain ⟨c1, c2⟩ := (nk_lt (h := h) (a := a) (K := K) v1).1 (by omega)
    have hKv : K ≤ K * v := Nat.le_mul_of_pos_right K v1
    have hRb := hXb (a - K * v) (by omega)
    have hidx : (a : Int) - ((K * v : Nat) : Int) = ((a - K * v : Nat) : Int) := by omega
    have e1 : ∀ k, spec_l01Table.l3 (k + 1) vs hs (m : Int) T (i : Int) x (a : Int) (K : Int) = spec_l01Table.j4 k vs hs (m : Int) T (i : Int) x (a : Int) (K : Int) true := fun k => by
      rw [spec_l01Table.l3, if_pos (by omega), if_pos (by omega), rdN, hh, if_pos (by omega), if_pos (by omega), rdN, hv, mulC, w64 (by omega) (by omega), decide_eq_true (by omega)]
    refine Ev.step (f := fun k => spec_l01Table.j4 k vs hs (m : Int) T (i : Int) x (a : Int) (K : Int) true) e1 ?_
    have e2 : ∀ k, spec_l01Table.j4 (k + 1) vs hs (m : Int) T (i : Int) x (a : Int) (K : Int) true = (if X.getD (a - K * v) 0 ≥ 0 then (if bk X v a K < 0 then spec_l01Table.l3 k vs hs (m : Int) T (i : Int) (x.set a (wrap64 (X.getD (a - K * v) 0 + (K : Int)))) (a : Int) ((K + 1 : Nat) : Int) else if wrap64 (X.getD (a - K * v) 0 + (K : Int)) < bk X v a K then spec_l01Table.l3 k vs hs (m : Int) T (i : Int) (x.set a (wrap64 (X.getD (a - K * v) 0 + (K : Int)))) (a : Int) ((K + 1 : Nat) : Int) else spec_l01Table.l3 k vs hs (m : Int) T (i : Int) x (a : Int) ((K + 1 : Nat) : Int)) else spec_l01Table.l3 k vs hs (m : Int) T (i : Int) x (a : Int) ((K + 1 : Nat) : Int)) := fun k => by
      rw [spec_l01Table.j4, if_pos rfl, if_pos (by omega), if_pos (by omega), if_pos (by omega), rdN, hv, mulC, w64 (x := ((K * v : Nat) : Int)) (by omega) (by omega), hidx, w64 (x := ((a - K * v : Nat) : Int)) (by omega) (by omega),
        show rd_L1 T 0 = T.getD 0 [] from rfl, hT, if_pos (by omega), if_pos (by omega), if_pos (show (0 : Int) ≤ (a : Int) by omega), if_pos (show (a : Int) < (x.length : Int) by omega), rdN, rdN, hxa, wN K (by omega), Int.toNat_natCast]
    have go : ∀ x' : List Int, x'.length = m + 1 → x'.getD a 0 = bk X v a (K + 1) → x'.set a (bk X v a (nk v h a)) = x.set a (bk X v a (nk v h a)) → Ev (fun k => spec_l01Table.l3 k vs hs (m : Int) T (i : Int) x' (a : Int) ((K + 1 : Nat) : Int)) r := fun x' g1 g2 g3 =>
      ih (K + 1) x' (by omega) (by omega) g1 g2 (by rw [g3]; exact hr)
    by_cases q1 : X.getD (a - K * v) 0 ≥ 0
    · have hw : wrap64 (X.getD (a - K * v) 0 + (K : Int)) = X.getD (a - K * v) 0 + (K : Int) := w64 (by omega) (by omega)
      by_cases q2 : bk X v a K < 0 ∨ X.getD (a - K * v) 0 + (K : Int) < bk X v a K
      · refine Ev.step (fun k => ?_) (go (x.set a (X.getD (a - K * v) 0 + (K : Int))) (by simpa using hx) (by rw [getD_set _ _ _ _ (by omega), if_pos rfl, bk, if_pos ⟨q1, q2⟩]) (by rw [List.set_set]))
        rw [e2, if_pos q1, hw]
        by_cases q3 : bk X v a K < 0
        · rw [if_pos q3]
        · rw [if_neg q3, if_pos (q2.resolve_left q3)]
      · refine Ev.step (fun k => ?_) (go x hx (by rw [hxa, bk, if_neg (fun c => q2 c.2)]) rfl)
        rw [e2, if_pos q1, hw, if_neg (fun c => q2 (Or.inl c)), if_neg (fun c => q2 (Or.inr c))]
    · refine Ev.step (fun k => ?_) (go x hx (by rw [hxa, bk, if_neg (fun c => q1 c.1)]) rfl)
      rw [e2, if_neg q1]
theorem rowS_at (X : List Int) (v h m a : Nat) (ha : a ≤ m) : (rowS X v h m).getD a 0 = bk X v a (nk v h a) := by unfold rowS; rw [getD_range _ _ _ _ (by omega)]
theorem rowS_len (X : List Int) (v h m : Nat) : (rowS X v h m).length = m + 1 := by simp [rowS]
theorem st_l2 (vs hs : List Int) (m i v h : Nat) (hi : i < vs.length) (hl : hs.length = vs.length) (hv : vs.getD i 0 = (v : Int)) (v1 : 1 ≤ v) (v5 : v ≤ 500) (hh : hs.getD i 0 = (h : Int)) (h2 : h ≤ 2000000000000)
    (T : List (List Int)) (X : List Int) (hT : T.getD 0 [] = X) (hT0 : 0 < T.length) (hT1 : T.length ≤ 2000) (hX : X.length = m + 1) (hXb : ∀ a, a ≤ m → X.getD a 0 ≤ a) (hm : m ≤ 2000) (hi2 : i ≤ 2000) (r : List (List Int))
    (hr : Ev (fun k => spec_l01Table.l1 k vs hs (m : Int) (rowS X v h m :: T) ((i : Int) - 1)) r) :
    ∀ d a (x : List Int), m + 1 - a = d → a ≤ m + 1 → x.length = m + 1 → (∀ j, j < a → x.getD j 0 = (rowS X v h m).getD j 0) → Ev (fun k => spec_l01Table.l2 k vs hs (m : Int) T (i : Int) x (a : Int)) r := by
  intro d
  induction d with
  | zero =>
    intro a x hd ha hx hj
    have e : x = rowS X v h m := list_ext _ _ (by rw [hx, rowS_len]) (fun j h => by rw [rowS_len] at h; exact hj j (by omega))
    refine Ev.step (fun k => ?_) hr
    rw [spec_l01Table.l2, if_neg (by omega), Option.bind_some, if_pos (by simp; omega), w64 (x := (i : Int) - 1) (by omega) (by omega), e]
    rfl
  | succ d ih =>
    intro a x hd ha hx hj
    refine Ev.step (f := fun k => spec_l01Table.l3 k vs hs (m : Int) T (i : Int) (x.set a (-1)) (a : Int) ((0 : Nat) : Int)) (fun k => ?_) (st_l3 vs hs m i v h hi hl hv v1 v5 hh h2 T X hT hT0 hX hXb hm a (by omega) r _ 0 (x.set a (-1)) rfl (Nat.zero_le _) (by simpa using hx) (by rw [getD_set _ _ _ _ (by omega), if_pos rfl]; rfl) ?_)
    · rw [spec_l01Table.l2, if_pos (by omega), if_pos (by omega), if_pos (by omega), Int.toNat_natCast]; rfl
    · rw [List.set_set]
      refine ih (a + 1) _ (by omega) (by omega) (by simpa using hx) (fun j hj' => ?_)
      rw [getD_set _ _ _ _ (by omega)]
      split
      · rename_i e; subst e; rw [rowS_at _ _ _ _ _ (by omega)]
      · exact hj j (by omega)
theorem st_l1 {vs hs : List Int} {m : Nat} {B : Nat → Nat} (q : Kinds vs hs m B) (hn : vs.length ≤ 1000) (hm : m ≤ 2000) : ∀ d k (T : List (List Int)), vs.length - k = d → k ≤ vs.length → T.length = k + 1 → (∀ j, j ≤ k → T.getD j [] = headS vs hs m (k - j)) →
    ∃ U, Ev (fun K => spec_l01Table.l1 K vs hs (m : Int) T ((vs.length : Int) - 1 - (k : Int))) U ∧ U.length = vs.length + 1 ∧ ∀ j, j ≤ vs.length → U.getD j [] = headS vs hs m (vs.length - j) := by
  intro d
  induction d with
  | zero =>
    intro k T hd hk hT hj
    obtain rfl : k = vs.length := by omega
    refine ⟨T, Ev.step (f := fun _ => some T) (fun K => ?_) (Ev.now _), hT, hj⟩
    rw [spec_l01Table.l1, if_neg (by omega)]
  | succ d ih =>
    intro k T hd hk hT hj
    have hval := q.val (vs.length - 1 - k) (by omega)
    have hhav := q.hav (vs.length - 1 - k) (by omega)
    have hT0 : T.getD 0 [] = headS vs hs m k := by rw [hj 0 (by omega)]; rfl
    have hXb : ∀ a, a ≤ m → (headS vs hs m k).getD a 0 ≤ a := fun a ha => by
      rcases relHead q k (by omega) a ha with ⟨e, _⟩ | ⟨_, e, _⟩ <;> omega
    obtain ⟨U, u1, u2, u3⟩ := ih (k + 1) (headS vs hs m (k + 1) :: T) (by omega) (by omega) (by simp [hT]) (fun j hj' => by
      cases j with
      | zero => rfl
      | succ j => rw [List.getD_cons_succ, hj j (by omega), show k + 1 - (j + 1) = k - j by omega])
    refine ⟨U, ?_, u2, u3⟩
    have hi : (vs.length : Int) - 1 - (k : Int) = ((vs.length - 1 - k : Nat) : Int) := by omega
    have hi2 : (vs.length : Int) - 1 - ((k + 1 : Nat) : Int) = ((vs.length - 1 - k : Nat) : Int) - 1 := by omega
    rw [hi2] at u1
    refine Ev.step (f := fun K => spec_l01Table.l2 K vs hs (m : Int) T ((vs.length - 1 - k : Nat) : Int) (List.replicate (m + 1) 0) ((0 : Nat) : Int)) (fun K => ?_) (st_l2 vs hs m (vs.length - 1 - k) (vs.getD (vs.length - 1 - k) 0).toNat (hs.getD (vs.length - 1 - k) 0).toNat (by omega) q.len (by omega) (by omega) (by omega) (by omega) (by omega) T _ hT0 (by omega) (by omega) (headS_len _ _ _ _) hXb hm (by omega) U u1 _ 0 _ rfl (Nat.zero_le _) (by simp) (fun j h => absurd h (Nat.not_lt_zero _)))
    rw [hi, spec_l01Table.l1, if_pos (by omega), w64 (x := (m : Int) + 1) (by omega) (by omega), if_pos (by omega), show ((m : Int) + 1).toNat = m + 1 by omega, if_pos (by omega)]
    rfl
theorem st_l0 {vs hs : List Int} {m : Nat} {B : Nat → Nat} (q : Kinds vs hs m B) (hn : vs.length ≤ 1000) (hm : m ≤ 2000) : ∀ d a (x : List Int), m + 1 - a = d → 1 ≤ a → a ≤ m + 1 → x.length = m + 1 → x.getD 0 0 = 0 → (∀ j, 1 ≤ j → j < a → x.getD j 0 = -1) →
    ∃ U, Ev (fun K => spec_l01Table.l0 K vs hs (m : Int) (vs.length : Int) x (a : Int)) U ∧ U.length = vs.length + 1 ∧ ∀ j, j ≤ vs.length → U.getD j [] = headS vs hs m (vs.length - j) := by
  intro d
  induction d with
  | zero =>
    intro a x hd h1 ha hx h0 hj
    have e : x = headS vs hs m 0 := list_ext _ _ (by rw [hx, headS_len]) (fun j h => by
      rw [headS_len] at h
      rw [headS, getD_range _ _ _ _ h]
      by_cases e : j = 0
      · rw [if_pos e, e, h0]
      · rw [if_neg e, hj j (by omega) (by omega)])
    obtain ⟨U, u1, u2, u3⟩ := st_l1 q hn hm _ 0 [x] rfl (Nat.zero_le _) rfl (fun j hj' => by obtain rfl : j = 0 := (by omega); exact e)
    refine ⟨U, Ev.step (fun K => ?_) u1, u2, u3⟩
    rw [spec_l01Table.l0, if_neg (by omega), w64 (x := (vs.length : Int) - 1) (by omega) (by omega), show (vs.length : Int) - 1 - ((0 : Nat) : Int) = (vs.length : Int) - 1 by omega]
  | succ d ih =>
    intro a x hd h1 ha hx h0 hj
    obtain ⟨U, u1, u2, u3⟩ := ih (a + 1) (x.set a (-1)) (by omega) (by omega) (by omega) (by simpa using hx) (by rw [getD_set _ _ _ _ (by omega), if_neg (by omega)]; exact h0) (fun j j1 j2 => by
      rw [getD_set _ _ _ _ (by omega)]
      split
      · rfl
      · exact hj j j1 (by omega))
    refine ⟨U, Ev.step (fun K => ?_) u1, u2, u3⟩
    rw [spec_l01Table.l0, if_pos (by omega), if_pos (by omega), if_pos (by omega), wN a (by omega), Int.toNat_natCast]
theorem tableS {vs hs : List Int} {m : Nat} {B : Nat → Nat} (q : Kinds vs hs m B) (hn : vs.length ≤ 1000) (hm : m ≤ 2000) :
    ∃ U, Ev (fun K => spec_l01Table.f K vs hs (m : Int)) U ∧ U.length = vs.length + 1 ∧ ∀ j, j ≤ vs.length → U.getD j [] = headS vs hs m (vs.length - j) := by
  obtain ⟨U, u1, u2, u3⟩ := st_l0 q hn hm _ 1 (List.replicate (m + 1) 0) rfl (Nat.le_refl _) (by omega) (by simp) (getD_rep _ _ _ (by omega)) (fun j h1 h2 => by omega)
  refine ⟨U, Ev.congr (fun K => ?_) u1, u2, u3⟩
  rw [spec_l01Table.f, w64 (x := (m : Int) + 1) (by omega) (by omega), if_pos (by omega), show ((m : Int) + 1).toNat = m + 1 by omega, if_pos (by omega)]
  rfl

end Go.Proofs.Ytnhcdfikjfjkoaa.Pure

namespace Go.Proofs.Ytnhcdfikjfjkoaa.Pure
open Go.RowKit Go.Proofs.Ytnhcdfikjfjkoaa.P Go.Proofs.YtnhcdfikjfjkoaaW.PrintWords Go.Proofs.YtnhcdfikjfjkoaaW.PrintLast
set_option linter.unusedVariables false
set_option linter.unusedSimpArgs false

theorem setI_at (x : List (List S77)) (i : Nat) (c : List S77) (h : i < x.length) : (x.set i c).getD i [] = c := by rw [getD_setG [] _ _ _ _ h, if_pos rfl]
theorem setI_ne (x : List (List S77)) (i j : Nat) (c : List S77) (h : i < x.length) (hn : i ≠ j) : (x.set i c).getD j [] = x.getD j [] := by rw [getD_setG [] _ _ _ _ h, if_neg hn]
theorem set_selfI (c : List S77) (a : Nat) (e : S77) (h : c.getD a z77 = e) (ha : a < c.length) : c.set a e = c := by
  refine list_extG z77 _ _ (by simp) (fun j hj => ?_)
  rw [getD_setG z77 _ _ _ _ ha]
  split
  · rename_i q; subst q; exact h.symm
  · rfl
theorem it_l2 {B B' m : Nat} {X : List Int} {Y : List S77} (hR : RelRow B m X Y) (vs hs : List Int) (i v h : Nat) (hi : i < vs.length) (hn : vs.length ≤ 1000) (hl : hs.length = vs.length) (hv : vs.getD i 0 = (v : Int)) (v1 : 1 ≤ v) (v5 : v ≤ 500) (hh : hs.getD i 0 = (h : Int)) (h2 : h ≤ 2000000000000)
    (hB : ∀ a, a ≤ m → nk v h a * B ≤ B') (hBB : B' ≤ 4000000000000000000) (x0 : List (List S77)) (hx0 : x0.length = vs.length + 1) (hY : x0.getD (i + 1) [] = Y) (hYl : Y.length = m + 1) (hm : m ≤ 2000) (a : Nat) (ha : a ≤ m) (r : List (List S77)) :
    ∀ d K (c : List S77), nk v h a - K = d → K ≤ nk v h a → c.length = m + 1 → c.getD a z77 = ⟨wk Y v a K, lk Y v a K⟩ →
      Ev (fun k => impl_purse_table.l1 k (m : Int) (x0.set i (c.set a ⟨wk Y v a (nk v h a), lk Y v a (nk v h a)⟩)) (i : Int) ((m + 1 : Nat) : Int) ((a + 1 : Nat) : Int) vs hs) r →
      Ev (fun k => impl_purse_table.l2 k (m : Int) (x0.set i c) (i : Int) (a : Int) (K : Int) ((m + 1 : Nat) : Int) (a : Int) vs hs) r := by
  intro d
  induction d with
  | zero =>
    intro K c hd hK hc hca hr
    obtain rfl : K = nk v h a := by omega
    have hb := nk_le v1 (Nat.le_refl (nk v h a))
    have hnot : ¬ (nk v h a ≤ h ∧ nk v h a * v ≤ a) := fun c => by have := (nk_lt v1).2 c; omega
    rw [set_selfI c a _ hca (by omega)] at hr
    refine Ev.step (f := fun k => impl_purse_table.j3 k (m : Int) (x0.set i c) (i : Int) (a : Int) ((nk v h a : Nat) : Int) ((m + 1 : Nat) : Int) (a : Int) false vs hs) (fun k => ?_) (Ev.step (fun k => ?_) hr)
    · rw [impl_purse_table.l2, if_pos (by omega), if_pos (by omega), rdN, hh]
      by_cases c : ((nk v h a : Nat) : Int) ≤ (h : Int)
      · rw [if_pos c, if_pos (by omega), rdN, hv, mulC, w64 (by omega) (by omega), decide_eq_false (by omega)]
      · rw [if_neg c]
    · rw [impl_purse_table.j3, if_neg (by simp), wN a (by omega)]
  | succ d ih =>
    intro K c hd hK hc hca hr
    obtain ⟨c1, c2⟩ := (nk_lt (h := h) (a := a) (K := K) v1).1 (by omega)
    have hKv : K ≤ K * v := Nat.le_mul_of_pos_right K v1
    have hidx : (a : Int) - ((K * v : Nat) : Int) = ((a - K * v : Nat) : Int) := by omega
    have hrel := relK hR v h a v1 ha K (by omega)
    have hrel1 := relK hR v h a v1 ha (K + 1) (by omega)
    have hKB : (K + 1) * B ≤ B' := Nat.le_trans (Nat.mul_le_mul_right B (by omega)) (hB a ha)
    have hKB0 : K * B ≤ B' := Nat.le_trans (Nat.mul_le_mul_right B (by omega)) (hB a ha)
    have he := hR (a - K * v) (by omega)
    have hxl : (x0.set i c).length = vs.length + 1 := by rw [List.length_set]; exact hx0
    have hci : (x0.set i c).getD i [] = c := setI_at x0 i c (by omega)
    have hcY : (x0.set i c).getD (i + 1) [] = Y := by rw [setI_ne x0 i (i + 1) c (by omega) (by omega)]; exact hY
    have e1 : ∀ k, impl_purse_table.l2 (k + 1) (m : Int) (x0.set i c) (i : Int) (a : Int) (K : Int) ((m + 1 : Nat) : Int) (a : Int) vs hs = impl_purse_table.j3 k (m : Int) (x0.set i c) (i : Int) (a : Int) (K : Int) ((m + 1 : Nat) : Int) (a : Int) true vs hs := fun k => by
      rw [impl_purse_table.l2, if_pos (by omega), if_pos (by omega), rdN, hh, if_pos (by omega), if_pos (by omega), rdN, hv, mulC, w64 (by omega) (by omega), decide_eq_true (by omega)]
    refine Ev.step (f := fun k => impl_purse_table.j3 k (m : Int) (x0.set i c) (i : Int) (a : Int) (K : Int) ((m + 1 : Nat) : Int) (a : Int) true vs hs) e1 ?_
    have e2 : ∀ k, impl_purse_table.j3 (k + 1) (m : Int) (x0.set i c) (i : Int) (a : Int) (K : Int) ((m + 1 : Nat) : Int) (a : Int) true vs hs = (if (Y.getD (a - K * v) z77).f0 = 0 then impl_purse_table.l2 k (m : Int) (x0.set i c) (i : Int) (a : Int) ((K + 1 : Nat) : Int) ((m + 1 : Nat) : Int) (a : Int) vs hs else (if wk Y v a K = 0 then impl_purse_table.j4 k (m : Int) (x0.set i c) (i : Int) (a : Int) (K : Int) ((m + 1 : Nat) : Int) (a : Int) true vs hs (Y.getD (a - K * v) z77).f0 (Y.getD (a - K * v) z77).f1 else impl_purse_table.j4 k (m : Int) (x0.set i c) (i : Int) (a : Int) (K : Int) ((m + 1 : Nat) : Int) (a : Int) (decide (wrap64 ((Y.getD (a - K * v) z77).f1 + (K : Int)) < lk Y v a K)) vs hs (Y.getD (a - K * v) z77).f0 (Y.getD (a - K * v) z77).f1)) := fun k => by
      rw [impl_purse_table.j3, if_pos rfl, wN i (by omega), if_pos (by omega), if_pos (by omega), if_pos (by omega), if_pos (by omega), rdN, hv, mulC, w64 (x := ((K * v : Nat) : Int)) (by omega) (by omega), hidx, w64 (x := ((a - K * v : Nat) : Int)) (by omega) (by omega),
        rdL7, hcY, if_pos (by omega), if_pos (by omega), rdP, wN K (by omega), if_pos (show (i : Int) < ((x0.set i c).length : Int) by omega), if_pos (show (0 : Int) ≤ (a : Int) by omega), rdL7, hci, if_pos (show (a : Int) < (c.length : Int) by omega), rdP, hca]
    have go : ∀ c' : List S77, c'.length = m + 1 → c'.getD a z77 = ⟨wk Y v a (K + 1), lk Y v a (K + 1)⟩ → c'.set a ⟨wk Y v a (nk v h a), lk Y v a (nk v h a)⟩ = c.set a ⟨wk Y v a (nk v h a), lk Y v a (nk v h a)⟩ → Ev (fun k => impl_purse_table.l2 k (m : Int) (x0.set i c') (i : Int) (a : Int) ((K + 1 : Nat) : Int) ((m + 1 : Nat) : Int) (a : Int) vs hs) r := fun c' g1 g2 g3 =>
      ih (K + 1) c' (by omega) (by omega) g1 g2 (by rw [g3]; exact hr)
    have j4t : ∀ (l : Int) k, wrap64 ((Y.getD (a - K * v) z77).f1 + (K : Int)) = l → impl_purse_table.j4 (k + 1) (m : Int) (x0.set i c) (i : Int) (a : Int) (K : Int) ((m + 1 : Nat) : Int) (a : Int) true vs hs (Y.getD (a - K * v) z77).f0 (Y.getD (a - K * v) z77).f1 =
        impl_purse_table.l2 k (m : Int) (x0.set i (c.set a ⟨wrap64 (wk Y v a K + (Y.getD (a - K * v) z77).f0), l⟩)) (i : Int) (a : Int) ((K + 1 : Nat) : Int) ((m + 1 : Nat) : Int) (a : Int) vs hs := fun l k hlw => by
      rw [impl_purse_table.j4, if_pos rfl, if_pos (by omega), if_pos (by omega), if_pos (show (0 : Int) ≤ (a : Int) by omega), rdL7, hci, if_pos (show (a : Int) < (c.length : Int) by omega), rdP, hca, Option.bind_some, Int.toNat_natCast, Int.toNat_natCast, List.set_set, rdL7, setI_at x0 i _ (by omega), if_pos (by rw [List.length_set]; omega), rdP, getD_setG z77 _ _ _ _ (by omega), if_pos rfl, List.set_set, List.set_set, wN K (by omega), hlw]
    have j4f : ∀ k, impl_purse_table.j4 (k + 1) (m : Int) (x0.set i c) (i : Int) (a : Int) (K : Int) ((m + 1 : Nat) : Int) (a : Int) false vs hs (Y.getD (a - K * v) z77).f0 (Y.getD (a - K * v) z77).f1 =
        impl_purse_table.l2 k (m : Int) (x0.set i (c.set a ⟨wrap64 (wk Y v a K + (Y.getD (a - K * v) z77).f0), lk Y v a K⟩)) (i : Int) (a : Int) ((K + 1 : Nat) : Int) ((m + 1 : Nat) : Int) (a : Int) vs hs := fun k => by
      rw [impl_purse_table.j4, if_neg (by simp), if_pos (by omega), if_pos (by omega), if_pos (show (0 : Int) ≤ (a : Int) by omega), rdL7, hci, if_pos (show (a : Int) < (c.length : Int) by omega), rdP, hca, Int.toNat_natCast, Int.toNat_natCast, List.set_set, wN K (by omega)]
    have hwk : wk Y v a (K + 1) = wk Y v a K + (Y.getD (a - K * v) z77).f0 := rfl
    have hww : wrap64 (wk Y v a K + (Y.getD (a - K * v) z77).f0) = wk Y v a (K + 1) := by
      rw [hwk]
      rw [hwk] at hrel1
      apply w64 <;> omega
    rw [hww] at j4t j4f
    unfold RelE at he
    by_cases q1 : (Y.getD (a - K * v) z77).f0 = 0
    · refine Ev.step (fun k => ?_) (go c hc (by rw [hca, hwk, q1, Int.add_zero, lk, if_neg (fun q => q.1 q1)]) rfl)
      rw [e2, if_pos q1]
    · have hf1 : 0 ≤ (Y.getD (a - K * v) z77).f1 ∧ (Y.getD (a - K * v) z77).f1 ≤ 2000 := by omega
      have hw : wrap64 ((Y.getD (a - K * v) z77).f1 + (K : Int)) = (Y.getD (a - K * v) z77).f1 + (K : Int) := w64 (by omega) (by omega)
      have ge : ∀ l, l = lk Y v a (K + 1) → Ev (fun k => impl_purse_table.l2 k (m : Int) (x0.set i (c.set a ⟨wk Y v a (K + 1), l⟩)) (i : Int) (a : Int) ((K + 1 : Nat) : Int) ((m + 1 : Nat) : Int) (a : Int) vs hs) r := fun l hl' =>
        go (c.set a ⟨wk Y v a (K + 1), l⟩) (by simpa using hc) (by rw [getD_setG z77 _ _ _ _ (by omega), if_pos rfl, hl']) (by rw [List.set_set])
      by_cases q2 : wk Y v a K = 0
      · refine Ev.step (f := fun k => impl_purse_table.j4 k (m : Int) (x0.set i c) (i : Int) (a : Int) (K : Int) ((m + 1 : Nat) : Int) (a : Int) true vs hs (Y.getD (a - K * v) z77).f0 (Y.getD (a - K * v) z77).f1) (fun k => by rw [e2, if_neg q1, if_pos q2]) ?_
        exact Ev.step (fun k => j4t _ k hw) (ge _ (by rw [lk, if_pos ⟨q1, Or.inl q2⟩]))
      · by_cases q3 : (Y.getD (a - K * v) z77).f1 + (K : Int) < lk Y v a K
        · refine Ev.step (f := fun k => impl_purse_table.j4 k (m : Int) (x0.set i c) (i : Int) (a : Int) (K : Int) ((m + 1 : Nat) : Int) (a : Int) true vs hs (Y.getD (a - K * v) z77).f0 (Y.getD (a - K * v) z77).f1) (fun k => by rw [e2, if_neg q1, if_neg q2, hw, decide_eq_true q3]) ?_
          exact Ev.step (fun k => j4t _ k hw) (ge _ (by rw [lk, if_pos ⟨q1, Or.inr q3⟩]))
        · refine Ev.step (f := fun k => impl_purse_table.j4 k (m : Int) (x0.set i c) (i : Int) (a : Int) (K : Int) ((m + 1 : Nat) : Int) (a : Int) false vs hs (Y.getD (a - K * v) z77).f0 (Y.getD (a - K * v) z77).f1) (fun k => by rw [e2, if_neg q1, if_neg q2, hw, decide_eq_false q3]) ?_
          exact Ev.step (fun k => j4f k) (ge _ (by rw [lk, if_neg (fun q => q.2.elim q2 q3)]))
theorem rowI_at (Y : List S77) (v h m a : Nat) (ha : a ≤ m) : (rowI Y v h m).getD a z77 = ⟨wk Y v a (nk v h a), lk Y v a (nk v h a)⟩ := by unfold rowI; rw [getD_range _ _ _ _ (by omega)]
theorem rowI_len (Y : List S77) (v h m : Nat) : (rowI Y v h m).length = m + 1 := by simp [rowI]
theorem it_l1 {B B' m : Nat} {X : List Int} {Y : List S77} (hR : RelRow B m X Y) (vs hs : List Int) (i v h : Nat) (hi : i < vs.length) (hn : vs.length ≤ 1000) (hl : hs.length = vs.length) (hv : vs.getD i 0 = (v : Int)) (v1 : 1 ≤ v) (v5 : v ≤ 500) (hh : hs.getD i 0 = (h : Int)) (h2 : h ≤ 2000000000000)
    (hB : ∀ a, a ≤ m → nk v h a * B ≤ B') (hBB : B' ≤ 4000000000000000000) (x0 : List (List S77)) (hx0 : x0.length = vs.length + 1) (hY : x0.getD (i + 1) [] = Y) (hYl : Y.length = m + 1) (hm : m ≤ 2000) (r : List (List S77))
    (hr : Ev (fun k => impl_purse_table.l0 k (m : Int) (x0.set i (rowI Y v h m)) ((i : Int) - 1) vs hs) r) :
    ∀ d a (c : List S77), m + 1 - a = d → a ≤ m + 1 → c.length = m + 1 → (∀ j, j < a → c.getD j z77 = (rowI Y v h m).getD j z77) → (∀ j, a ≤ j → j ≤ m → c.getD j z77 = z77) →
      Ev (fun k => impl_purse_table.l1 k (m : Int) (x0.set i c) (i : Int) ((m + 1 : Nat) : Int) (a : Int) vs hs) r := by
  intro d
  induction d with
  | zero =>
    intro a c hd ha hc hj hz
    have e : c = rowI Y v h m := list_extG z77 _ _ (by rw [hc, rowI_len]) (fun j h => by rw [rowI_len] at h; exact hj j (by omega))
    refine Ev.step (fun k => ?_) hr
    rw [impl_purse_table.l1, if_neg (by omega), w64 (x := (i : Int) - 1) (by omega) (by omega), e]
  | succ d ih =>
    intro a c hd ha hc hj hz
    refine Ev.step (f := fun k => impl_purse_table.l2 k (m : Int) (x0.set i c) (i : Int) (a : Int) ((0 : Nat) : Int) ((m + 1 : Nat) : Int) (a : Int) vs hs) (fun k => ?_)
      (it_l2 hR vs hs i v h hi hn hl hv v1 v5 hh h2 hB hBB x0 hx0 hY hYl hm a (by omega) r _ 0 c rfl (Nat.zero_le _) hc (by rw [hz a (Nat.le_refl _) (by omega)]; rfl) (ih (a + 1) _ (by omega) (by omega) (by simpa using hc) (fun j hj' => ?_) (fun j j1 j2 => ?_)))
    · rw [impl_purse_table.l1, if_pos (by omega)]; rfl
    · rw [getD_setG z77 _ _ _ _ (by omega)]
      split
      · rename_i e; subst e; rw [rowI_at _ _ _ _ _ (by omega)]
      · exact hj j (by omega)
    · rw [getD_setG z77 _ _ _ _ (by omega), if_neg (by omega)]; exact hz j (by omega) j2
theorem rep_z (n j : Nat) (h : j < n) : (List.replicate n z77).getD j z77 = z77 := by simp [List.getD_eq_getElem?_getD, h]
theorem it_l0 {vs hs : List Int} {m : Nat} {B : Nat → Nat} (q : Kinds vs hs m B) (hn : vs.length ≤ 1000) (hm : m ≤ 2000) : ∀ d k (x0 : List (List S77)), vs.length - k = d → k ≤ vs.length → x0.length = vs.length + 1 → (∀ j, vs.length - k ≤ j → j ≤ vs.length → x0.getD j [] = headI vs hs m (vs.length - j)) →
    ∃ U, Ev (fun K => impl_purse_table.l0 K (m : Int) x0 ((vs.length : Int) - 1 - (k : Int)) vs hs) U ∧ U.length = vs.length + 1 ∧ ∀ j, j ≤ vs.length → U.getD j [] = headI vs hs m (vs.length - j) := by
  intro d
  induction d with
  | zero =>
    intro k x0 hd hk hx hj
    obtain rfl : k = vs.length := by omega
    refine ⟨x0, Ev.step (f := fun _ => some x0) (fun K => ?_) (Ev.now _), hx, fun j h => hj j (by omega) h⟩
    rw [impl_purse_table.l0, if_neg (by omega)]
  | succ d ih =>
    intro k x0 hd hk hx hj
    have hval := q.val (vs.length - 1 - k) (by omega)
    have hhav := q.hav (vs.length - 1 - k) (by omega)
    have hY : x0.getD (vs.length - 1 - k + 1) [] = headI vs hs m k := by rw [show vs.length - 1 - k + 1 = vs.length - k by omega, hj _ (Nat.le_refl _) (by omega), show vs.length - (vs.length - k) = k by omega]
    obtain ⟨U, u1, u2, u3⟩ := ih (k + 1) (x0.set (vs.length - 1 - k) (headI vs hs m (k + 1))) (by omega) (by omega) (by simpa using hx) (fun j j1 j2 => by
      by_cases e : vs.length - 1 - k = j
      · subst e
        rw [setI_at _ _ _ (by omega), show vs.length - (vs.length - 1 - k) = k + 1 by omega]
      · rw [setI_ne _ _ _ _ (by omega) e]; exact hj j (by omega) j2)
    refine ⟨U, ?_, u2, u3⟩
    have hi : (vs.length : Int) - 1 - (k : Int) = ((vs.length - 1 - k : Nat) : Int) := by omega
    have hi2 : (vs.length : Int) - 1 - ((k + 1 : Nat) : Int) = ((vs.length - 1 - k : Nat) : Int) - 1 := by omega
    rw [hi2] at u1
    refine Ev.step (f := fun K => impl_purse_table.l1 K (m : Int) (x0.set (vs.length - 1 - k) (List.replicate (m + 1) z77)) ((vs.length - 1 - k : Nat) : Int) ((m + 1 : Nat) : Int) ((0 : Nat) : Int) vs hs) (fun K => ?_)
      (it_l1 (relHead q k (by omega)) vs hs (vs.length - 1 - k) (vs.getD (vs.length - 1 - k) 0).toNat (hs.getD (vs.length - 1 - k) 0).toNat (by omega) hn q.len (by omega) (by omega) (by omega) (by omega) (by omega) (q.bs k (by omega)) (q.bb (k + 1) (by omega)) x0 hx hY (headI_len _ _ _ _) hm U u1 _ 0 _ rfl (Nat.zero_le _) (by simp) (fun j h => absurd h (Nat.not_lt_zero _)) (fun j _ h => rep_z _ _ (by omega)))
    rw [hi, impl_purse_table.l0, if_pos (by omega), w64 (x := (m : Int) + 1) (by omega) (by omega), if_pos (by omega), show ((m : Int) + 1).toNat = m + 1 by omega, if_pos (by omega), if_pos (by omega), if_pos (by omega), Option.bind_some, if_neg (by omega), Int.toNat_natCast]
    rfl
theorem tableI {vs hs : List Int} {m : Nat} {B : Nat → Nat} (q : Kinds vs hs m B) (hn : vs.length ≤ 1000) (hm : m ≤ 2000) :
    ∃ U, Ev (fun K => impl_purse_table.f K vs hs (m : Int)) U ∧ U.length = vs.length + 1 ∧ ∀ j, j ≤ vs.length → U.getD j [] = headI vs hs m (vs.length - j) := by
  have e0 : (List.replicate (m + 1) z77).set 0 (⟨1, 0⟩ : S77) = headI vs hs m 0 := list_extG z77 _ _ (by simp [headI]) (fun j h => by
    rw [headI_len] at h
    rw [getD_setG z77 _ _ _ _ (by simp), headI, getD_range _ _ _ _ h]
    by_cases e : j = 0
    · rw [if_pos e.symm, if_pos e]
    · rw [if_neg (fun q => e q.symm), if_neg e, rep_z _ _ h]; rfl)
  obtain ⟨U, u1, u2, u3⟩ := it_l0 q hn hm _ 0 ((List.replicate (vs.length + 1) ([] : List S77)).set vs.length (headI vs hs m 0)) rfl (Nat.zero_le _) (by simp) (fun j j1 j2 => by
    obtain rfl : j = vs.length := by omega
    rw [setI_at _ _ _ (by simp), Nat.sub_self])
  refine ⟨U, Ev.congr (f := fun K => impl_purse_table.l0 K (m : Int) (List.replicate (vs.length + 1) []) (vs.length : Int) vs hs) (fun K => ?_) (Ev.step (fun K => ?_) u1), u2, u3⟩
  · rw [impl_purse_table.f, w64 (x := (vs.length : Int) + 1) (by omega) (by omega), if_pos (by omega), show ((vs.length : Int) + 1).toNat = vs.length + 1 by omega, if_pos (by omega)]
  · rw [impl_purse_table.l0, if_pos (by omega), w64 (x := (m : Int) + 1) (by omega) (by omega), if_pos (by omega), show ((m : Int) + 1).toNat = m + 1 by omega, if_pos (by omega), if_pos (by omega), if_pos (by simp <;> omega), Option.bind_some, if_pos rfl, Int.toNat_natCast, rdL7, setI_at _ _ _ (by simp), if_pos (by simp <;> omega), List.set_set, Int.toNat_zero, e0, w64 (x := (vs.length : Int) - 1) (by omega) (by omega), show (vs.length : Int) - 1 - ((0 : Nat) : Int) = (vs.length : Int) - 1 by omega]

end Go.Proofs.Ytnhcdfikjfjkoaa.Pure

namespace Go.Proofs.Ytnhcdfikjfjkoaa.Pure
open Go.RowKit Go.Proofs.Ytnhcdfikjfjkoaa.P Go.Proofs.YtnhcdfikjfjkoaaW.PrintWords Go.Proofs.YtnhcdfikjfjkoaaW.PrintLast
set_option linter.unusedVariables false
set_option linter.unusedSimpArgs false

theorem least_of (P : Nat → Prop) : ∀ n, P n → ∃ k, k ≤ n ∧ P k ∧ ∀ j, j < k → ¬ P j := by
  intro n
  induction n using Nat.strongRecOn with
  | ind n ih =>
    intro h
    by_cases c : ∃ j, j < n ∧ P j
    · obtain ⟨j, h1, h2⟩ := c
      obtain ⟨k, k1, k2, k3⟩ := ih j h1 h2
      exact ⟨k, by omega, k2, k3⟩
    · exact ⟨n, Nat.le_refl _, h, fun j hj hp => c ⟨j, hj, hp⟩⟩
theorem snoc_at (l : List Int) (x : Int) (j : Nat) : (l ++ [x]).getD j 0 = if j < l.length then l.getD j 0 else if j = l.length then x else 0 := by
  simp only [List.getD_eq_getElem?_getD, List.getElem?_append]
  split
  · rfl
  · split
    · rename_i e; subst e; simp
    · rename_i h1 h2
      rw [List.getElem?_eq_none (by simp; omega)]; rfl
theorem cnt {vs hs : List Int} {m : Nat} {B : Nat → Nat} (q : Kinds vs hs m B) (hn : vs.length ≤ 1000) (hm : m ≤ 2000) (T : List (List Int)) (U : List (List S77)) (hT : T.length = vs.length + 1) (hU : U.length = vs.length + 1)
    (hTj : ∀ j, j ≤ vs.length → T.getD j [] = headS vs hs m (vs.length - j)) (hUj : ∀ j, j ≤ vs.length → U.getD j [] = headI vs hs m (vs.length - j)) : ∀ d i a (out : List Int), vs.length - i = d → i ≤ vs.length → a ≤ m → out.length = i → (∀ j, j < i → 0 ≤ out.getD j 0 ∧ out.getD j 0 ≤ hs.getD j 0) → 0 ≤ (headS vs hs m (vs.length - i)).getD a 0 →
    ∃ r, (r.length = vs.length ∧ ∀ j, j < vs.length → 0 ≤ r.getD j 0 ∧ r.getD j 0 ≤ hs.getD j 0) ∧ Ev (fun k => spec_l01Counts.l0 k T vs (a : Int) out (i : Int)) r ∧ Ev (fun k => impl_purse_counts.l0 k U (a : Int) out ((headS vs hs m (vs.length - i)).getD a 0) vs (vs.length : Int) (i : Int)) r := by
  intro d
  induction d with
  | zero =>
    intro i a out hd hi ha ho hob hx
    obtain rfl : i = vs.length := by omega
    refine ⟨out, ⟨ho, hob⟩, Ev.step (f := fun _ => some out) (fun k => ?_) (Ev.now _), Ev.step (f := fun _ => some out) (fun k => ?_) (Ev.now _)⟩
    · rw [spec_l01Counts.l0, if_neg (by omega)]
    · rw [impl_purse_counts.l0, if_neg (by omega)]
  | succ d ih =>
    intro i a out hd hi ha ho hob hx
    have hval := q.val i (by omega)
    have hhav := q.hav i (by omega)
    obtain ⟨v, hv⟩ := Int.eq_ofNat_of_zero_le (show 0 ≤ vs.getD i 0 by omega)
    obtain ⟨h, hh⟩ := Int.eq_ofNat_of_zero_le (show 0 ≤ hs.getD i 0 by omega)
    have v1 : 1 ≤ v := by omega
    have hTi := hTj i hi
    have hTi1 := hTj (i + 1) (by omega)
    have hUi1 := hUj (i + 1) (by omega)
    have hR := relHead q (vs.length - (i + 1)) (by omega)
    have hXl := headS_len vs hs m (vs.length - (i + 1))
    have hYl := headI_len vs hs m (vs.length - (i + 1))
    have hZl := headS_len vs hs m (vs.length - i)
    have hstep : headS vs hs m (vs.length - i) = rowS (headS vs hs m (vs.length - (i + 1))) v h m := by
      rw [show vs.length - i = (vs.length - (i + 1)) + 1 by omega, headS, show vs.length - 1 - (vs.length - (i + 1)) = i by omega, hv, hh]; rfl
    obtain ⟨x, hxx⟩ : ∃ x, x = (headS vs hs m (vs.length - i)).getD a 0 := ⟨_, rfl⟩
    have hbk : x = bk (headS vs hs m (vs.length - (i + 1))) v a (nk v h a) := by rw [hxx, hstep, rowS_at _ _ _ _ _ ha]
    rw [← hxx] at hx ⊢
    have hih := ih (i + 1)
    generalize headS vs hs m (vs.length - (i + 1)) = X at *
    generalize headI vs hs m (vs.length - (i + 1)) = Y at *
    obtain ⟨j, j1, j2, j3⟩ := bk_found X v a (nk v h a) (by rw [← hbk]; exact hx)
    obtain ⟨K0, k1, ⟨k2, k3⟩, k4⟩ := least_of (fun j => 0 ≤ X.getD (a - j * v) 0 ∧ X.getD (a - j * v) 0 + (j : Int) = x) j ⟨j2, by rw [j3, hbk]⟩
    have hK0 : K0 * v ≤ a := ((nk_lt v1).1 (show K0 < nk v h a by omega)).2
    have hidx0 : (a : Int) - ((K0 * v : Nat) : Int) = ((a - K0 * v : Nat) : Int) := by omega
    have hKv0 : K0 ≤ K0 * v := Nat.le_mul_of_pos_right K0 v1
    have hxa : x ≤ 4000 := by
      have := hR (a - K0 * v) (by omega)
      unfold RelE at this
      omega
    obtain ⟨r, r1, r2, r3⟩ := hih (a - K0 * v) (out ++ [(K0 : Int)]) (by omega) (by omega) (by omega) (by simp [ho]) (fun j hj => by
      rw [snoc_at, ho]
      by_cases c : j < i
      · rw [if_pos c]; exact hob j c
      · obtain rfl : j = i := by omega
        rw [if_neg (by omega), if_pos rfl, hh]
        have := ((nk_lt (h := h) (a := a) (K := K0) v1).1 (show K0 < nk v h a by omega)).1
        omega) k2
    have key : ∀ e K, K0 - K = e → K ≤ K0 → Ev (fun k => spec_l01Counts.l1 k T vs (a : Int) out (i : Int) (K : Int)) r ∧ Ev (fun k => impl_purse_counts.l1 k U (a : Int) out x (i : Int) (v : Int) (K : Int) vs (vs.length : Int) (i : Int)) r := by
      intro e
      induction e with
      | zero =>
        intro K he hK
        obtain rfl : K = K0 := by omega
        refine ⟨Ev.step (fun k => ?_) r2, Ev.step (fun k => ?_) r3⟩
        · rw [spec_l01Counts.l1, if_pos (by omega), if_pos (by omega), rdN, hv, mulC, w64 (x := ((K * v : Nat) : Int)) (by omega) (by omega), if_neg (by omega), wN i (by omega), if_pos (by omega), if_pos (by omega), hidx0, w64 (x := ((a - K * v : Nat) : Int)) (by omega) (by omega), if_pos (by omega), rdL1, hTi1, if_pos (by omega), rdN, if_neg (by omega),
            if_pos (show (i : Int) < (T.length : Int) by omega), if_pos (show (0 : Int) ≤ (a : Int) by omega), rdL1, hTi, if_pos (by omega), rdN, ← hxx, k3, w64 (x := x) (by omega) (by omega), if_pos rfl, if_pos (by omega)]
        · have hE := hR (a - K * v) (by omega)
          unfold RelE at hE
          rw [impl_purse_counts.l1, wN i (by omega), if_pos (by omega), if_pos (by omega), mulC, w64 (x := ((K * v : Nat) : Int)) (by omega) (by omega), hidx0, w64 (x := ((a - K * v : Nat) : Int)) (by omega) (by omega), if_pos (by omega), rdL7, hUi1, if_pos (by omega), rdP, if_pos (by omega),
            show (Y.getD (a - K * v) z77).f1 + (K : Int) = x by omega, w64 (x := x) (by omega) (by omega), if_pos rfl, if_pos (by omega), w64 (x := x - (K : Int)) (by omega) (by omega), show x - (K : Int) = X.getD (a - K * v) 0 by omega]
      | succ e ih2 =>
        intro K he hK
        obtain ⟨g1, g2⟩ := ih2 (K + 1) (by omega) (by omega)
        have hKK : K * v ≤ K0 * v := Nat.mul_le_mul_right v (by omega)
        have hKv : K ≤ K * v := Nat.le_mul_of_pos_right K v1
        have hidx : (a : Int) - ((K * v : Nat) : Int) = ((a - K * v : Nat) : Int) := by omega
        have hno := k4 K (by omega)
        have hE := hR (a - K * v) (by omega)
        unfold RelE at hE
        refine ⟨Ev.step (fun k => ?_) g1, Ev.step (fun k => ?_) g2⟩
        · rw [spec_l01Counts.l1, if_pos (by omega), if_pos (by omega), rdN, hv, mulC, w64 (x := ((K * v : Nat) : Int)) (by omega) (by omega), if_neg (by omega), wN i (by omega), if_pos (by omega), if_pos (by omega), hidx, w64 (x := ((a - K * v : Nat) : Int)) (by omega) (by omega), if_pos (by omega), rdL1, hTi1, if_pos (by omega), rdN, wN K (by omega)]
          by_cases c : X.getD (a - K * v) 0 < 0
          · rw [if_pos c]
          · rw [if_neg c, if_pos (show (i : Int) < (T.length : Int) by omega), if_pos (show (0 : Int) ≤ (a : Int) by omega), rdL1, hTi, if_pos (by omega), rdN, ← hxx, w64 (x := X.getD (a - K * v) 0 + (K : Int)) (by omega) (by omega), if_neg (fun c2 => hno ⟨by omega, c2⟩)]
        · rw [impl_purse_counts.l1, wN i (by omega), if_pos (by omega), if_pos (by omega), mulC, w64 (x := ((K * v : Nat) : Int)) (by omega) (by omega), hidx, w64 (x := ((a - K * v : Nat) : Int)) (by omega) (by omega), if_pos (by omega), rdL7, hUi1, if_pos (by omega), rdP, wN K (by omega)]
          by_cases c : (Y.getD (a - K * v) z77).f0 > 0
          · rw [if_pos c, w64 (x := (Y.getD (a - K * v) z77).f1 + (K : Int)) (by omega) (by omega), if_neg (fun c2 => hno ⟨by omega, by omega⟩)]
          · rw [if_neg c]
    obtain ⟨g1, g2⟩ := key _ 0 rfl (Nat.zero_le _)
    refine ⟨r, r1, Ev.step (fun k => ?_) g1, Ev.step (fun k => ?_) g2⟩
    · rw [spec_l01Counts.l0, if_pos (by omega)]; rfl
    · rw [impl_purse_counts.l0, if_pos (by omega), if_pos (by omega), if_pos (by omega), rdN, hv]; rfl
/-- Both tables, with the same counts out of them. -/
theorem tables {vs hs : List Int} {m : Nat} {B : Nat → Nat} (q : Kinds vs hs m B) (hn : vs.length ≤ 1000) (hm : m ≤ 2000) : ∃ T U, Ev (fun k => spec_l01Table.f k vs hs (m : Int)) T ∧ Ev (fun k => impl_purse_table.f k vs hs (m : Int)) U ∧ 0 < T.length ∧ 0 < U.length ∧ (rd_L1 T 0).length = m + 1 ∧ (rd_L7 U 0).length = m + 1 ∧
    ∀ a, a ≤ m → -1 ≤ rd (rd_L1 T 0) (a : Int) ∧ rd (rd_L1 T 0) (a : Int) ≤ 2000 ∧ (rd (rd_L1 T 0) (a : Int) < 0 ↔ (rd_T77 (rd_L7 U 0) (a : Int)).f0 = 0) ∧ 0 ≤ (rd_T77 (rd_L7 U 0) (a : Int)).f0 ∧ (0 ≤ rd (rd_L1 T 0) (a : Int) → (rd_T77 (rd_L7 U 0) (a : Int)).f1 = rd (rd_L1 T 0) (a : Int) ∧
      ∃ r, (r.length = vs.length ∧ ∀ j, j < vs.length → 0 ≤ r.getD j 0 ∧ r.getD j 0 ≤ hs.getD j 0) ∧ Ev (fun k => spec_l01Counts.f k T vs (a : Int)) r ∧ Ev (fun k => impl_purse_counts.f k vs hs U (a : Int)) r) := by
  obtain ⟨T, t1, t2, t3⟩ := tableS q hn hm
  obtain ⟨U, u1, u2, u3⟩ := tableI q hn hm
  have hT0 := t3 0 (Nat.zero_le _)
  have hU0 := u3 0 (Nat.zero_le _)
  have eT : rd_L1 T 0 = headS vs hs m vs.length := hT0
  have eU : rd_L7 U 0 = headI vs hs m vs.length := hU0
  refine ⟨T, U, t1, u1, by omega, by omega, by rw [eT, headS_len], by rw [eU, headI_len], fun a ha => ?_⟩
  have hR := relHead q vs.length (Nat.le_refl _) a ha
  rw [eT, eU, rdN, rdP]
  unfold RelE at hR
  refine ⟨by omega, by omega, by omega, by omega, fun h0 => ⟨by omega, ?_⟩⟩
  obtain ⟨r, r1, r2, r3⟩ := cnt q hn hm T U t2 u2 t3 u3 _ 0 a [] rfl (Nat.zero_le _) ha rfl (fun j h => absurd h (Nat.not_lt_zero _)) h0
  refine ⟨r, r1, Ev.congr (fun k => ?_) r2, Ev.congr (fun k => ?_) r3⟩
  · rw [spec_l01Counts.f]; rfl
  · rw [impl_purse_counts.f, if_pos (by omega), if_pos (by omega), eU, if_pos (by rw [headI_len]; omega), rdP, show (headI vs hs m vs.length |>.getD a z77).f1 = (headS vs hs m vs.length).getD a 0 by omega]; rfl

end Go.Proofs.Ytnhcdfikjfjkoaa.Pure

namespace Go.Proofs.Ytnhcdfikjfjkoaa.Pure
open Go.RowKit Go.Proofs.Ytnhcdfikjfjkoaa.P Go.Proofs.YtnhcdfikjfjkoaaW.PrintWords Go.Proofs.YtnhcdfikjfjkoaaW.PrintLast
set_option linter.unusedVariables false
set_option linter.unusedSimpArgs false

theorem parts_l0 (l : List S56) (hw : Wf l) (hb : l.length ≤ 4398046511104) : ∀ d i (x y : List Int), l.length - i = d → i ≤ l.length → x = (l.take i).map S56.f0 → y = (l.take i).map S56.f1 →
    Ev (fun k => spec_l01Parts.l0 k l x y (i : Int)) (l.map S56.f0, l.map S56.f1) := by
  intro d
  induction d with
  | zero =>
    intro i x y hd hi hx hy
    obtain rfl : i = l.length := by omega
    rw [List.take_length] at hx hy
    refine Ev.step (f := fun _ => some (x, y)) (fun k => ?_) (by rw [hx, hy]; exact Ev.now _)
    rw [spec_l01Parts.l0, if_neg (by omega)]
  | succ d ih =>
    intro i x y hd hi hx hy
    have hwf := hw.at i (by omega)
    have e : l.take (i + 1) = l.take i ++ [l.getD i z56] := by rw [List.take_add_one, List.getElem?_eq_getElem (by omega), getD_eqG z56 l i (by omega)]; rfl
    refine Ev.step (fun k => ?_) (ih (i + 1) (x ++ [(l.getD i z56).f0]) (y ++ [(l.getD i z56).f1]) (by omega) (by omega) (by rw [hx, e]; simp) (by rw [hy, e]; simp))
    rw [spec_l01Parts.l0, if_pos (by omega), if_pos (by omega), if_pos (by rw [hx]; simp; omega), if_pos (by rw [hy]; simp; omega), rdS, w64 (by omega) (by omega), w64 (by omega) (by omega), wN i (by omega)]
theorem partsF (l : List S56) (hw : Wf l) (hb : l.length ≤ 4398046511104) : Ev (fun k => spec_l01Parts.f k l) (l.map S56.f0, l.map S56.f1) :=
  parts_l0 l hw hb _ 0 [] [] rfl (Nat.zero_le _) (by simp) (by simp)
theorem pow51 (k : Nat) (h : k ≤ 8) : 51 ^ k ≤ 4000000000000000000 := Nat.le_trans (Nat.pow_le_pow_right (by omega) h) (by decide)
theorem kindsOf {l : List S56} (h : SV l) (m : Nat) : Kinds (l.map S56.f0) (l.map S56.f1) m (fun k => 51 ^ k) := by
  refine ⟨by simp, fun i hi => ?_, fun i hi => ?_, rfl, fun k hk a ha => ?_, fun k hk => pow51 k (by rw [List.length_map] at hk; have := h.1; omega)⟩
  · rw [List.length_map] at hi; rw [map_getD l S56.f0 i hi]; exact (h.2.1 i hi).1
  · rw [List.length_map] at hi; rw [map_getD l S56.f1 i hi]; have := (h.2.1 i hi).2; omega
  · rw [List.length_map] at hk ⊢
    have h1 := (h.2.1 (l.length - 1 - k) (by omega)).2
    have hh : ((l.map S56.f1).getD (l.length - 1 - k) 0).toNat ≤ 50 := by rw [map_getD l S56.f1 _ (by omega)]; omega
    have : nk ((l.map S56.f0).getD (l.length - 1 - k) 0).toNat ((l.map S56.f1).getD (l.length - 1 - k) 0).toNat a ≤ 51 := by unfold nk; omega
    rw [Nat.pow_succ, Nat.mul_comm (51 ^ k) 51]
    exact Nat.mul_le_mul_right _ this
/-- Whether stock and postage are asked rightly. -/
theorem bothStocked (l : List S56) (hw : Wf l) (hb : l.length ≤ 4398046511104) (a : Int) : ∃ c, Ev (fun k => spec_l01Stocked.f k l a) c ∧ Ev (fun k => impl_stockCode.f k l [a]) c ∧ (c = 0 ↔ SV l ∧ 0 ≤ a ∧ a ≤ 1000) := by
  obtain ⟨b, h1, h2, h3⟩ := bothStock l hw hb
  obtain ⟨K1, h1⟩ := EvG h1
  obtain ⟨K2, h2⟩ := EvG h2
  have eA : impl_areWithin.f [a] 0 1000 = some (decide (0 ≤ a) && decide (a ≤ 1000)) := by rw [impl_areWithin.f]; simp
  cases b with
  | false =>
    refine ⟨1, EvI K1 fun k hk => ?_, EvI K2 fun k hk => ?_, ⟨fun h => by omega, fun h => by have := h3.2 h.1; simp at this⟩⟩
    · rw [spec_l01Stocked.f, h1 k hk, Option.bind_some, if_neg (by simp)]
    · rw [impl_stockCode.f, h2 k hk, Option.bind_some, if_neg (by simp)]
  | true =>
    by_cases c : 0 ≤ a ∧ a ≤ 1000
    · have e : (decide (0 ≤ a) && decide (a ≤ 1000)) = true := by simp [c.1, c.2]
      refine ⟨0, EvI K1 fun k hk => ?_, EvI K2 fun k hk => ?_, ⟨fun _ => ⟨h3.1 rfl, c⟩, fun _ => rfl⟩⟩
      · rw [spec_l01Stocked.f, h1 k hk, Option.bind_some, if_pos rfl, postageF, Option.bind_some, e, if_pos rfl]
      · rw [impl_stockCode.f, h2 k hk, Option.bind_some, if_pos rfl, eA, Option.bind_some, e, impl_unless.f, if_pos rfl, Option.bind_some]
    · have e : (decide (0 ≤ a) && decide (a ≤ 1000)) = false := by
        rw [Bool.and_eq_false_iff]
        by_cases c1 : 0 ≤ a
        · right; simp; omega
        · left; simp; omega
      refine ⟨2, EvI K1 fun k hk => ?_, EvI K2 fun k hk => ?_, ⟨fun h => by omega, fun h => absurd h.2 c⟩⟩
      · rw [spec_l01Stocked.f, h1 k hk, Option.bind_some, if_pos rfl, postageF, Option.bind_some, e, if_neg (by simp)]
      · rw [impl_stockCode.f, h2 k hk, Option.bind_some, if_pos rfl, eA, Option.bind_some, e, impl_unless.f, if_neg (by simp), Option.bind_some]
/-- The counts with the fewest stamps. -/
theorem fewestBoth (l : List S56) (hw : Wf l) (hs : SV l) (a : Int) (h0 : 0 ≤ a) (h1 : a ≤ 1000) : ∃ c s b, Ev (fun k => impl_purse_fewest.f k (l.map S56.f0) (l.map S56.f1) a) (c, s, b) ∧ Ev (fun k => spec_PayFrom.f k l a) (if b = true then (c, s, 0) else ([], 0, 6)) ∧
    (b = true → c.length = l.length ∧ ∀ j, j < l.length → 0 ≤ c.getD j 0 ∧ c.getD j 0 ≤ (l.getD j z56).f1) := by
  have hl := hs.1
  obtain ⟨n, rfl⟩ := Int.eq_ofNat_of_zero_le h0
  obtain ⟨cd, p1, _, p3⟩ := bothStocked l hw (by omega) (n : Int)
  obtain rfl : cd = 0 := p3.2 ⟨hs, h0, h1⟩
  obtain ⟨K1, p1⟩ := EvG p1
  obtain ⟨K2, p2⟩ := EvG (partsF l hw (by omega))
  obtain ⟨T, U, t1, u1, t2, u2, t3, u3, H⟩ := tables (kindsOf hs n) (by rw [List.length_map]; omega) (by omega)
  obtain ⟨K3, t1⟩ := EvG t1
  obtain ⟨K4, u1⟩ := EvG u1
  obtain ⟨q1, q2, q3, q4, q5⟩ := H n (Nat.le_refl _)
  by_cases c : rd (rd_L1 T 0) (n : Int) < 0
  · refine ⟨[], 0, false, EvI K4 fun k hk => ?_, EvI (K1 + K2 + K3) fun k hk => ?_, fun h => by simp at h⟩
    · rw [impl_purse_fewest.f, u1 k hk, Option.bind_some, if_pos (by omega), if_pos h0, if_pos (by omega), if_pos (q3.1 c)]
    · rw [spec_PayFrom.f, p1 k (by omega), Option.bind_some, if_pos rfl, p2 k (by omega), Option.bind_some, t1 k (by omega), Option.bind_some, if_pos (by omega), if_pos h0, if_pos (by omega), if_pos c, if_neg (by simp)]
  · obtain ⟨f1, r, ⟨r1, r2⟩, r3, r4⟩ := q5 (by omega)
    obtain ⟨K5, r3⟩ := EvG r3
    obtain ⟨K6, r4⟩ := EvG r4
    rw [List.length_map] at r1 r2
    refine ⟨r, rd (rd_L1 T 0) (n : Int), true, EvI (K4 + K6) fun k hk => ?_, EvI (K1 + K2 + K3 + K5) fun k hk => ?_, fun _ => ⟨r1, fun j hj => by have := r2 j hj; rwa [map_getD l S56.f1 j hj] at this⟩⟩
    · rw [impl_purse_fewest.f, u1 k (by omega), Option.bind_some, if_pos (by omega), if_pos h0, if_pos (by omega), if_neg (fun e => c (q3.2 e)), r4 k (by omega), Option.bind_some, f1]
    · rw [spec_PayFrom.f, p1 k (by omega), Option.bind_some, if_pos rfl, p2 k (by omega), Option.bind_some, t1 k (by omega), Option.bind_some, if_pos (by omega), if_pos h0, if_pos (by omega), if_neg c, r3 k (by omega), Option.bind_some, if_pos rfl]
theorem payBoth (l : List S56) (hw : Wf l) (hb : l.length ≤ 4398046511104) (a : Int) : ∃ r : List Int × Int × Int, r.1.length ≤ l.length ∧ Ev (fun k => spec_PayFrom.f k l a) r ∧ Ev (fun k => impl_PayFrom.f k l a) r := by
  obtain ⟨c, h1, h2, h3⟩ := bothStocked l hw hb a
  obtain ⟨K2, h2⟩ := EvG h2
  by_cases e : c = 0
  · obtain ⟨hs, h0, hm⟩ := h3.1 e
    obtain ⟨q, s, b, f1, f2, f3⟩ := fewestBoth l hw hs a h0 hm
    obtain ⟨K3, f1⟩ := EvG f1
    obtain ⟨K4, p⟩ := EvG (purseF l hw hb)
    cases b with
    | true =>
      refine ⟨(q, s, 0), Nat.le_of_eq (f3 rfl).1, f2, EvI (K2 + K3 + K4) fun k hk => ?_⟩
      rw [impl_PayFrom.f, h2 k (by omega), Option.bind_some, if_pos e, p k (by omega), Option.bind_some, f1 k (by omega), Option.bind_some, if_pos rfl]
    | false =>
      refine ⟨([], 0, 6), Nat.zero_le _, f2, EvI (K2 + K3 + K4) fun k hk => ?_⟩
      rw [impl_PayFrom.f, h2 k (by omega), Option.bind_some, if_pos e, p k (by omega), Option.bind_some, f1 k (by omega), Option.bind_some, if_neg (by simp)]
  · obtain ⟨K1, h1⟩ := EvG h1
    refine ⟨([], 0, c), Nat.zero_le _, EvI K1 fun k hk => ?_, EvI K2 fun k hk => ?_⟩
    · rw [spec_PayFrom.f, h1 k hk, Option.bind_some, if_neg e]
    · rw [impl_PayFrom.f, h2 k hk, Option.bind_some, if_neg e]

end Go.Proofs.Ytnhcdfikjfjkoaa.Pure

namespace Go.Proofs.Ytnhcdfikjfjkoaa.Pure
open Go.RowKit Go.Proofs.Ytnhcdfikjfjkoaa.P Go.Proofs.YtnhcdfikjfjkoaaW.PrintWords Go.Proofs.YtnhcdfikjfjkoaaW.PrintLast
set_option linter.unusedVariables false
set_option linter.unusedSimpArgs false

theorem FnExactPayFrom : laws_FnExactPayFrom.Pure := by
  intro x a ⟨hx, hw⟩ _
  by_cases h1 : (x.length : Int) ≤ 1048576
  · obtain ⟨K1, e1⟩ := EvG (toS x (by omega))
    obtain ⟨r, hr, h3, h4⟩ := payBoth (x.map cv) (Wf.cv hw) (by rw [List.length_map]; omega) a
    rw [List.length_map] at hr
    obtain ⟨K3, h3⟩ := EvG h3
    obtain ⟨K4, h4⟩ := EvG h4
    obtain ⟨K5, h5⟩ := EvG (eqS (x.map cv) (by rw [List.length_map]; omega))
    obtain ⟨K7, h7⟩ := EvG (eqI r.1 (by omega))
    obtain ⟨K8, h8⟩ := EvG (markS (x.map cv) (by rw [List.length_map]; omega))
    rw [List.length_map] at h8
    obtain ⟨K10, h10⟩ := EvG (markI r.1 1 (by omega) (by omega))
    obtain ⟨K11, h11⟩ := EvG (heldI r.1.length 1 (by omega) (by omega))
    obtain ⟨q, s, c⟩ := r
    simp only at h3 h4 h7 h10 h11 hr
    refine ⟨K1 + K3 + K4 + K5 + K7 + K8 + K10 + K11 + 3, ?_⟩
    rw [laws_FnExactPayFrom.f, szS x _ (by omega) (by omega) hx, Option.bind_some, if_pos h1, if_neg (by omega),
      e1 _ (by omega), Option.bind_some, h3 _ (by omega), Option.bind_some, Option.bind_some, h4 _ (by omega), Option.bind_some, h7 _ (by omega), Option.bind_some, if_pos rfl, if_pos rfl, bne_self_eq_false,
      laws_FnExactPayFrom.j0, if_neg (by simp), e1 _ (by omega), Option.bind_some, h5 _ (by omega), Option.bind_some, if_pos rfl,
      h8 _ (by omega), Option.bind_some, if_neg (by simp only; omega), h7 _ (by omega), Option.bind_some, if_pos rfl, if_pos rfl, bne_self_eq_false,
      laws_FnExactPayFrom.j1, if_neg (by simp), show (1 : Int) = ((1 : Nat) : Int) from rfl, h10 _ (by omega), Option.bind_some, h11 _ (by omega), Option.bind_some, if_neg (by omega), if_pos rfl,
      e1 _ (by omega), Option.bind_some, h4 _ (by omega), Option.bind_some, h7 _ (by omega), Option.bind_some, if_pos rfl, if_pos rfl, bne_self_eq_false,
      laws_FnExactPayFrom.j2, if_neg (by simp), show (1 : Int) = ((1 : Nat) : Int) from rfl, h11 _ (by omega), Option.bind_some, if_neg (by omega), if_pos rfl]
  · exact ⟨0, by rw [laws_FnExactPayFrom.f, szS x _ (by omega) (by omega) hx, Option.bind_some, if_neg h1, if_pos (by omega)]⟩

end Go.Proofs.Ytnhcdfikjfjkoaa.Pure

namespace Go.Proofs.Ytnhcdfikjfjkoaa.X
open Go.ChangeShapes Go.WideShapes Go.ChangeAt Go.RowKit Go.Proofs.YtnhcdfikjfjkoaaW.PrintWords Go.Deep
set_option linter.unusedVariables false

/-- What reads as data of type t is a value of kind d, and meets wf. -/
def Opens {α : Type} (P : Program) (t : TypeId) (d : Kd α) (wf : α → Prop) : Prop :=
  ∀ (H : Type) (enc : TypeId × Value → H) (W : World) (held : Bool) (fuel : Nat) (cs : List Value) (x : DataW H × List MemPlace), DataW.trod enc P W 0 (fun _ => true) held fuel t cs = some x → ∃ a, d.K W a cs ∧ wf a

theorem Opens.int {P : Program} {t : TypeId} {k : IntKind} (ht : P.underlying t = some (.int k)) : Opens P t (Kd.int k) (fun n => (Lit.int k n).wf = true) := by
  intro H enc W held fuel cs x h
  obtain ⟨n, rfl, _, hw⟩ := DataW.trod_int ht h
  exact ⟨n, rfl, hw⟩

theorem Opens.slice {α : Type} [Inhabited α] {P : Program} {t e : TypeId} {d : Kd α} {wf : α → Prop} (ht : P.underlying t = some (.slice e)) (hc : P.cellsOf e = d.sz) (h : Opens P e d wf) :
    Opens P t (Kd.slice e d) (fun l => l.length ≤ 9223372036854775807 ∧ ∀ a ∈ l, wf a) := by
  intro H enc W held fuel cs x hx
  rcases open_slice ht hx with ⟨rfl, _⟩ | ⟨ad, len, cap, m, n, D, Pl, rfl, _, hl, hm, hmm, _, hel⟩
  · exact ⟨[], ⟨none, 0, rfl, Nat.le_refl _, ⟨rfl, by simp, fun h => absurd h (Nat.lt_irrefl 0)⟩⟩, by simp, fun a ha => by cases ha⟩
  · have hmc : m = cap := by simpa using hmm
    have each : ∀ i, i < len → ∃ a : α, wf a ∧ ∃ c, c.length = d.sz ∧ d.K W a c ∧ ∀ j u, c[j]? = some u → W.cell? (ad.add (i * d.sz + j)) = some u := by
      intro i hi
      obtain ⟨cs', h1, h2⟩ := hel i (by omega)
      obtain ⟨_, hlen, hcell⟩ := World.cells?_some h1
      obtain ⟨a, hK, hw⟩ := h H enc W held n cs' _ h2
      refine ⟨a, hw, cs', by rw [hlen, hc], hK, fun j u hu => ?_⟩
      have hj : j < P.cellsOf e := by have := (List.getElem?_eq_some_iff.1 hu).1; omega
      have h3 := hcell j hj
      rw [hu, hc] at h3
      rw [← h3]
      congr 1
      unfold Addr.add
      by_cases h4 : i * d.sz = 0 <;> by_cases h5 : j = 0 <;> simp [h4, h5, Nat.add_assoc]
    obtain ⟨f, hf⟩ := choose_lt each
    have hlen : ((List.range len).map f).length = len := by simp
    refine ⟨(List.range len).map f, ⟨some ad, cap, by rw [hlen], by rw [hlen]; exact hl, ⟨rfl, by rw [hlen]; unfold maxLen at hm; omega, fun _ => ⟨ad, rfl, fun j p hp => ?_⟩⟩⟩, by rw [hlen]; unfold maxLen at hm; omega, fun a ha => ?_⟩
    · have hj : j < len := by have := (List.getElem?_eq_some_iff.1 hp).1; omega
      have hp2 : f j = p := by simpa [hj] using hp
      rw [← hp2]
      exact (hf j hj).2
    · obtain ⟨i, hi, rfl⟩ := List.mem_map.1 ha
      exact (hf i (List.mem_range.1 hi)).1

theorem Opens.pair {α β : Type} {P : Program} {t : TypeId} {a : Kd α} {b : Kd β} {wa : α → Prop} {wb : β → Prop} {f0 f1 : Field} (hs : P.underlying t = some (.struct #[f0, f1])) (o0 : f0.offset = 0) (c0 : P.cellsOf f0.type = a.sz) (o1 : f1.offset = a.sz) (c1 : P.cellsOf f1.type = b.sz) (hc : P.cellsOf t = a.sz + b.sz)
    (ha : Opens P f0.type a wa) (hb : Opens P f1.type b wb) : Opens P t (Kd.pair a b) (fun x => wa x.1 ∧ wb x.2) := by
  intro H enc W held fuel cs x hx
  obtain ⟨xs, n, _, _, hl, hxl, hf⟩ := DataW.trod_struct hs hx
  have hxl : xs.length = 2 := hxl
  have g0 := hf 0 f0 rfl
  have g1 := hf 1 f1 rfl
  rw [List.getElem?_eq_getElem (by omega)] at g0 g1
  obtain ⟨x0, k0, w0⟩ := ha H enc W held n _ _ g0
  obtain ⟨x1, k1, w1⟩ := hb H enc W held n _ _ g1
  refine ⟨(x0, x1), ⟨_, _, ?_, k0, k1⟩, w0, w1⟩
  rw [o0, o1, c0, c1, List.drop_zero]
  rw [List.take_of_length_le (l := cs.drop a.sz) (by rw [List.length_drop]; omega), List.take_append_drop]

theorem Opens.triple {α β γ : Type} {P : Program} {t : TypeId} {a : Kd α} {b : Kd β} {c : Kd γ} {wa : α → Prop} {wb : β → Prop} {wc : γ → Prop} {f0 f1 f2 : Field} (hs : P.underlying t = some (.struct #[f0, f1, f2])) (o0 : f0.offset = 0) (c0 : P.cellsOf f0.type = a.sz) (o1 : f1.offset = a.sz) (c1 : P.cellsOf f1.type = b.sz) (o2 : f2.offset = a.sz + b.sz) (c2 : P.cellsOf f2.type = c.sz) (hc : P.cellsOf t = a.sz + b.sz + c.sz)
    (ha : Opens P f0.type a wa) (hb : Opens P f1.type b wb) (hcc : Opens P f2.type c wc) : Opens P t (Kd.pair a (Kd.pair b c)) (fun x => wa x.1 ∧ wb x.2.1 ∧ wc x.2.2) := by
  intro H enc W held fuel cs x hx
  obtain ⟨xs, n, _, _, hl, hxl, hf⟩ := DataW.trod_struct hs hx
  have hxl : xs.length = 3 := hxl
  have g0 := hf 0 f0 rfl
  have g1 := hf 1 f1 rfl
  have g2 := hf 2 f2 rfl
  rw [List.getElem?_eq_getElem (by omega)] at g0 g1 g2
  obtain ⟨x0, k0, w0⟩ := ha H enc W held n _ _ g0
  obtain ⟨x1, k1, w1⟩ := hb H enc W held n _ _ g1
  obtain ⟨x2, k2, w2⟩ := hcc H enc W held n _ _ g2
  refine ⟨(x0, x1, x2), ⟨_, _, ?_, k0, ⟨_, _, rfl, k1, k2⟩⟩, w0, w1, w2⟩
  rw [o0, o1, o2, c0, c1, c2, List.drop_zero]
  rw [List.take_of_length_le (l := cs.drop (a.sz + b.sz)) (by rw [List.length_drop]; omega), ← List.drop_drop, List.take_append_drop, List.take_append_drop]

theorem Opens.iso {α β : Type} {P : Program} {t : TypeId} {d : Kd α} {wf : α → Prop} (f : β → α) (g : α → β) (hg : ∀ a, f (g a) = a) (h : Opens P t d wf) : Opens P t (Kd.iso d f) (fun b => wf (f b)) := by
  intro H enc W held fuel cs x hx
  obtain ⟨a, hK, hw⟩ := h H enc W held fuel cs x hx
  refine ⟨g a, ?_, by show wf (f (g a)); rw [hg]; exact hw⟩
  show d.K W (f (g a)) cs
  rw [hg]; exact hK

/-- An argument that is a struct. -/
theorem Opens.agg {α : Type} {P : Program} {t : TypeId} {d : Kd α} {wf : α → Prop} {fs : Array Field} (h : Opens P t d wf) (hs : P.underlying t = some (.struct fs)) {H : Type} {enc : TypeId × Value → H} {W : World} {r : Reach} {b0 : Nat} {v : Value} {dd : DataW H} {ps : List MemPlace}
    (hv : Value.okWide P W r b0 t v) (ht : DataW.Trod enc P W 0 (fun _ => true) true t v dd ps) : ∃ (a : α) (cs : List Value), v = .agg cs.toArray ∧ d.K W a cs ∧ wf a := by
  obtain ⟨cs, rfl, _⟩ := okWide_struct hs hv
  obtain ⟨fuel, hf⟩ := ht
  obtain ⟨a, hK, hw⟩ := h H enc W true fuel _ _ hf
  exact ⟨a, _, by simp [Value.cells], hK, hw⟩
/-- An argument that is a slice. -/
theorem Opens.arg {α : Type} {P : Program} {t e : TypeId} {d : Kd α} {wf : List α → Prop} (h : Opens P t (Kd.slice e d) wf) (ht : P.underlying t = some (.slice e)) {H : Type} {enc : TypeId × Value → H} {W : World} {r : Reach} {b0 : Nat} {v : Value} {dd : DataW H} {ps : List MemPlace}
    (hv : Value.okWide P W r b0 t v) (hT : DataW.Trod enc P W 0 (fun _ => true) true t v dd ps) : ∃ (l : List α) (A : Option Addr) (c : Nat), v = .slice A l.length c ∧ l.length ≤ c ∧ d.C W A l.length l ∧ wf l := by
  obtain ⟨a, len, cap, rfl⟩ := okWide_slice ht hv
  obtain ⟨fuel, hf⟩ := hT
  obtain ⟨l, ⟨A, c, he, hl, hC⟩, hw⟩ := h H enc W true fuel _ _ hf
  have he2 : [Value.slice a len cap] = [Value.slice A l.length c] := by simpa [Value.cells] using he
  injection he2 with he2 _
  exact ⟨l, A, c, he2, hl, hC, hw⟩

end Go.Proofs.Ytnhcdfikjfjkoaa.X
