/- FnExactWaysToPay returns true at every list of numbers and every postage: the reference and the program count by the same loops; no condition. -/
import Derived.Test.YtaonlhjblocfkaaP14
import Derived.Test.YtaonlhjblocfkaaP15
import Derived.Test.YtaonlhjblocfkaaP16
import Derived.Test.YtaonlhjblocfkaaXBase
import Derived.Test.YtaonlhjblocfkaaXValues
namespace Go.Proofs.Ytaonlhjblocfkaa.Pure
open Go.RowKit Go.Proofs.Ytaonlhjblocfkaa.P Go.Proofs.YtaonlhjblocfkaaW.PrintWords Go.Proofs.YtaonlhjblocfkaaW.PrintLast
set_option linter.unusedVariables false
set_option linter.unusedSimpArgs false

theorem ways_lock (l : List Int) (a : Int) (hb : l.length ≤ 8) : ∀ k,
    (∀ (w : List Int) (i : Nat), i ≤ l.length → spec_WaysToPay.l0 k l a w (i : Int) = impl_WaysToPay.l0 k a w l (l.length : Int) (i : Int)) ∧
    (∀ (w : List Int) (i : Nat) (at_ : Int), i < l.length → spec_WaysToPay.l1 k l a w (i : Int) at_ = impl_WaysToPay.l1 k a w (rd l (i : Int)) at_ l (l.length : Int) (i : Int)) := by
  intro k
  induction k with
  | zero => exact ⟨fun w i _ => rfl, fun w i at_ _ => rfl⟩
  | succ k ih =>
    refine ⟨fun w i hi => ?_, fun w i at_ hi => ?_⟩
    · rw [spec_WaysToPay.l0, impl_WaysToPay.l0]
      by_cases h : (i : Int) < (l.length : Int)
      · rw [if_pos h, if_pos h, if_pos (by omega), if_pos (by omega), if_pos h, ih.2 w i _ (by omega)]
      · rw [if_neg h, if_neg h]
    · rw [spec_WaysToPay.l1, impl_WaysToPay.l1, if_pos (show (0 : Int) ≤ (i : Int) by omega), if_pos (show (i : Int) < (l.length : Int) by omega), wN i (by omega), ih.1 w (i + 1) (by omega)]
      simp only [ih.2 _ i _ hi]

theorem ways_l1 (l : List Int) (a : Nat) (ha : a ≤ 1000) (hl : l.length ≤ 8) (v : Nat) (hv : 1 ≤ v) (i : Nat) (hi : i < l.length)
    (H : ∀ w : List Int, w.length = a + 1 → ∃ r, Ev (fun k => impl_WaysToPay.l0 k (a : Int) w l (l.length : Int) ((i + 1 : Nat) : Int)) r) :
    ∀ d at_ (w : List Int), a + 1 - at_ = d → v ≤ at_ → w.length = a + 1 → ∃ r, Ev (fun k => impl_WaysToPay.l1 k (a : Int) w (v : Int) (at_ : Int) l (l.length : Int) (i : Int)) r := by
  intro d
  induction d with
  | zero =>
    intro at_ w hd hv2 hw
    obtain ⟨r, hr⟩ := H w hw
    refine ⟨r, Ev.step (fun k => ?_) hr⟩
    rw [impl_WaysToPay.l1, if_neg (by omega), wN i (by omega)]
  | succ d ih =>
    intro at_ w hd hv2 hw
    have e : wrap64 ((at_ : Int) - (v : Int)) = ((at_ - v : Nat) : Int) := by rw [w64 (by omega) (by omega)]; omega
    obtain ⟨r, hr⟩ := ih (at_ + 1) (w.set at_ (wrap64 (rd w (at_ : Int) + rd w ((at_ - v : Nat) : Int)))) (by omega) (by omega) (by simpa using hw)
    refine ⟨r, Ev.step (fun k => ?_) hr⟩
    rw [impl_WaysToPay.l1, if_pos (by omega), if_pos (by omega), if_pos (by omega), e, if_pos (by omega), if_pos (by omega), wN at_ (by omega), Int.toNat_natCast]

theorem ways_l0 (l : List Int) (a : Nat) (ha : a ≤ 1000) (hv : VV l) : ∀ d i (w : List Int), l.length - i = d → i ≤ l.length → w.length = a + 1 → ∃ r, Ev (fun k => impl_WaysToPay.l0 k (a : Int) w l (l.length : Int) (i : Int)) r := by
  have hl := hv.2.1
  intro d
  induction d with
  | zero =>
    intro i w hd hi hw
    refine ⟨(rd w (a : Int), 0), Ev.step (f := fun _ => some (rd w (a : Int), 0)) (fun k => ?_) (Ev.now _)⟩
    rw [impl_WaysToPay.l0, if_neg (by omega), if_pos (by omega), if_pos (by omega)]
  | succ d ih =>
    intro i w hd hi hw
    obtain ⟨h1, h2⟩ := hv.2.2.1 i (by omega)
    obtain ⟨v, ev⟩ : ∃ v : Nat, rd l (i : Int) = (v : Int) := ⟨(l.getD i 0).toNat, by rw [rdN]; omega⟩
    rw [rdN] at ev
    obtain ⟨r, hr⟩ := ways_l1 l a ha hl v (by omega) i (by omega) (fun w hw => ih (i + 1) w (by omega) (by omega) hw) _ v w rfl (Nat.le_refl _) hw
    refine ⟨r, Ev.step (fun k => ?_) hr⟩
    rw [impl_WaysToPay.l0, if_pos (by omega), if_pos (by omega), if_pos (by omega), rdN, ev]

theorem both_ways (l : List Int) (a : Int) (hb : l.length ≤ 17592186044415) : ∃ r, Ev (fun k => spec_WaysToPay.f k l a) r ∧ Ev (fun k => impl_WaysToPay.f k l a) r := by
  obtain ⟨c, h1, h2, h3⟩ := bothCode l a 1000 hb
  obtain ⟨K1, h1⟩ := EvG h1
  obtain ⟨K2, h2⟩ := EvG h2
  by_cases hc : c = 0
  · obtain ⟨hv, h0, hm⟩ := h3.1 hc
    obtain ⟨n, rfl⟩ := Int.eq_ofNat_of_zero_le h0
    have hw : wrap64 ((n : Int) + 1) = ((n + 1 : Nat) : Int) := wN n (by omega)
    obtain ⟨r, hr⟩ := ways_l0 l n (by omega) hv _ 0 ((List.replicate (n + 1) 0).set 0 1) rfl (Nat.zero_le _) (by simp)
    obtain ⟨K3, h4⟩ := EvG hr
    refine ⟨r, EvI (K1 + K3) fun k hk => ?_, EvI (K2 + K3) fun k hk => ?_⟩
    · rw [spec_WaysToPay.f, postageF, Option.bind_some, h1 k (by omega), Option.bind_some, if_pos hc, hw, if_pos (by omega), Int.toNat_natCast, if_pos (by omega), Option.bind_some, if_pos (by simp),
        show (0 : Int) = ((0 : Nat) : Int) from rfl, (ways_lock l n hv.2.1 k).1 _ 0 (Nat.zero_le _), Int.toNat_natCast]
      exact h4 k (by omega)
    · rw [impl_WaysToPay.f, h2 k (by omega), Option.bind_some, if_pos hc, hw, if_pos (by omega), Int.toNat_natCast, if_pos (by omega), Option.bind_some, if_pos (by simp)]
      exact h4 k (by omega)
  · refine ⟨(0, c), EvI K1 fun k hk => ?_, EvI K2 fun k hk => ?_⟩
    · rw [spec_WaysToPay.f, postageF, Option.bind_some, h1 k hk, Option.bind_some, if_neg hc]
    · rw [impl_WaysToPay.f, h2 k hk, Option.bind_some, if_neg hc]

theorem FnExactWaysToPay : laws_FnExactWaysToPay.Pure := by
  intro l a _ _ _ _
  by_cases hl : (l.length : Int) > 1048576
  · exact ⟨0, by rw [laws_FnExactWaysToPay.f, if_pos hl]⟩
  · obtain ⟨r, h1, h2⟩ := both_ways l a (by omega)
    obtain ⟨K1, h1⟩ := EvG h1
    obtain ⟨K2, h2⟩ := EvG h2
    obtain ⟨K3, h3⟩ := EvG (toI l (by omega))
    obtain ⟨K4, h4⟩ := EvG (eqI l (by omega))
    refine ⟨K1 + K2 + K3 + K4 + 1, ?_⟩
    rw [laws_FnExactWaysToPay.f, if_neg hl, h3 _ (by omega), Option.bind_some, h1 _ (by omega), Option.bind_some, Option.bind_some, h2 _ (by omega), Option.bind_some, if_pos rfl, laws_FnExactWaysToPay.j0, if_neg (by simp), h3 _ (by omega), Option.bind_some, h4 _ (by omega)]
    rfl

end Go.Proofs.Ytaonlhjblocfkaa.Pure
