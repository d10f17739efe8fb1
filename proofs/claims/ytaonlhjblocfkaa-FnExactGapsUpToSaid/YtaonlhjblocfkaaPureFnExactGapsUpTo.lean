/- FnExactGapsUpTo returns true at every list of numbers and every bound: both tell the amounts that cannot be paid, in their order, in new memory; no condition. -/
import Derived.Test.YtaonlhjblocfkaaPimplGapsUpTo
import Derived.Test.YtaonlhjblocfkaaPlawsFnExactGapsUpTo
import Derived.Test.YtaonlhjblocfkaaPspecGapsUpTo
import Derived.Test.YtaonlhjblocfkaaXBase
import Derived.Test.YtaonlhjblocfkaaXValues
import Derived.Test.YtaonlhjblocfkaaXFewest
import Derived.Test.YtaonlhjblocfkaaXFewestS
import Derived.Test.YtaonlhjblocfkaaXPay
namespace Go.Proofs.Ytaonlhjblocfkaa.Pure
open Go.RowKit Go.Proofs.Ytaonlhjblocfkaa.P Go.Proofs.YtaonlhjblocfkaaW.PrintWords Go.Proofs.YtaonlhjblocfkaaW.PrintLast
set_option linter.unusedVariables false

theorem gaps_l0 (vs : List Int) (hvs : InR vs) (m : Nat) (hm : m ≤ 900000) : ∀ d n (x : List Int), m + 1 - n = d → n ≤ m + 1 → x.length ≤ n →
    ∃ r : List Int × Int, r.1.length ≤ m + 1 ∧ Ev (fun k => spec_GapsUpTo.l0 k (m : Int) x (fewL vs m) (n : Int)) r ∧ Ev (fun k => impl_GapsUpTo.l0 k x (impl_payable.row vs (m + 1)) ((impl_payable.row vs (m + 1)).length : Int) (n : Int)) r := by
  intro d
  induction d with
  | zero =>
    intro n x hd hn hx
    refine ⟨(x, 0), by show x.length ≤ _; omega, Ev.step (f := fun _ => some (x, 0)) (fun k => ?_) (Ev.now _), Ev.step (f := fun _ => some (x, 0)) (fun k => ?_) (Ev.now _)⟩
    · rw [spec_GapsUpTo.l0, if_neg (by omega)]
    · rw [impl_GapsUpTo.l0, if_neg (by rw [impl_payable.row_len]; omega)]
  | succ d ih =>
    intro n x hd hn hx
    by_cases h0 : 0 ≤ fw vs n
    · obtain ⟨r, hr, h4, h5⟩ := ih (n + 1) x (by omega) (by omega) (by omega)
      refine ⟨r, hr, Ev.step (fun k => ?_) h4, Ev.step (fun k => ?_) h5⟩
      · rw [spec_GapsUpTo.l0, if_pos (by omega), if_pos (by omega), if_pos (by rw [fewL_len]; omega), rdN, fewL_at vs m n (by omega), if_neg (by omega), wN n (by omega)]
      · rw [impl_GapsUpTo.l0, if_pos (by rw [impl_payable.row_len]; omega), if_pos (by omega), if_pos (by rw [impl_payable.row_len]; omega), rdRow vs hvs _ _ (by omega), if_pos (by simpa using h0), wN n (by omega)]
    · obtain ⟨r, hr, h4, h5⟩ := ih (n + 1) (x ++ [(n : Int)]) (by omega) (by omega) (by simp; omega)
      refine ⟨r, hr, Ev.step (fun k => ?_) h4, Ev.step (fun k => ?_) h5⟩
      · rw [spec_GapsUpTo.l0, if_pos (by omega), if_pos (by omega), if_pos (by rw [fewL_len]; omega), rdN, fewL_at vs m n (by omega), if_pos (by omega), if_pos (by omega), wN n (by omega)]
      · rw [impl_GapsUpTo.l0, if_pos (by rw [impl_payable.row_len]; omega), if_pos (by omega), if_pos (by rw [impl_payable.row_len]; omega), rdRow vs hvs _ _ (by omega), if_neg (by simpa using h0), if_pos (by omega), wN n (by omega)]

theorem both_gaps (l : List Int) (a : Int) (hb : l.length ≤ 17592186044415) : ∃ r : List Int × Int, r.1.length ≤ 1001 ∧ Ev (fun k => spec_GapsUpTo.f k l a) r ∧ Ev (fun k => impl_GapsUpTo.f k l a) r := by
  obtain ⟨c, h1, h2, h3⟩ := bothCode l a 1000 hb
  obtain ⟨K1, h1⟩ := EvG h1
  obtain ⟨K2, h2⟩ := EvG h2
  by_cases hc : c = 0
  · obtain ⟨hv, h0, hm⟩ := h3.1 hc
    obtain ⟨n, rfl⟩ := Int.eq_ofNat_of_zero_le h0
    obtain ⟨K3, h4⟩ := EvG (fewestF l hv.inR (by have := hv.2.1; omega) n (by omega))
    obtain ⟨r, hr, h7, h8⟩ := gaps_l0 l hv.inR n (by omega) _ 1 [] rfl (by omega) (by simp)
    obtain ⟨K4, h7⟩ := EvG h7
    obtain ⟨K5, h8⟩ := EvG h8
    refine ⟨r, by omega, EvI (K1 + K3 + K4) fun k hk => ?_, EvI (K2 + K5 + 1) fun k hk => ?_⟩
    · rw [spec_GapsUpTo.f, Option.bind_some, postageF, Option.bind_some, h1 k (by omega), Option.bind_some, if_pos hc, h4 k (by omega), Option.bind_some]
      exact h7 k (by omega)
    · obtain ⟨k, rfl⟩ : ∃ m, k = m + 1 := ⟨k - 1, by omega⟩
      rw [impl_GapsUpTo.f, h2 _ (by omega), Option.bind_some, if_pos hc, payF l hv.inR _ (by omega), Option.bind_some, impl_GapsUpTo.l0, if_pos (by rw [impl_payable.row_len]; omega), if_pos (by omega), if_pos (by rw [impl_payable.row_len]; omega),
        show (0 : Int) = ((0 : Nat) : Int) from rfl, rdRow l hv.inR _ _ (by omega), if_pos (by rw [fw_zero]; rfl), wN 0 (by omega)]
      exact h8 k (by omega)
  · refine ⟨([], c), by simp, EvI K1 fun k hk => ?_, EvI K2 fun k hk => ?_⟩
    · rw [spec_GapsUpTo.f, Option.bind_some, postageF, Option.bind_some, h1 k hk, Option.bind_some, if_neg hc]
    · rw [impl_GapsUpTo.f, h2 k hk, Option.bind_some, if_neg hc]

theorem FnExactGapsUpTo : laws_FnExactGapsUpTo.Pure := by
  intro l a _ _ _ _
  by_cases hl : (l.length : Int) > 1048576
  · exact ⟨0, by rw [laws_FnExactGapsUpTo.f, if_pos hl]⟩
  · obtain ⟨⟨r, c⟩, hr, h1, h2⟩ := both_gaps l a (by omega)
    replace hr : r.length ≤ 1001 := hr
    obtain ⟨K1, h1⟩ := EvG h1
    obtain ⟨K2, h2⟩ := EvG h2
    obtain ⟨K3, h3⟩ := EvG (toI l (by omega))
    obtain ⟨K4, h4⟩ := EvG (eqI l (by omega))
    obtain ⟨K5, h5⟩ := EvG (eqI r (by omega))
    obtain ⟨K6, h6⟩ := EvG (markI l 1 (by omega) (by omega))
    obtain ⟨K7, h7⟩ := EvG (markI r 1 (by omega) (by omega))
    obtain ⟨K8, h8⟩ := EvG (heldI r.length 1 (by omega) (by omega))
    refine ⟨K1 + K2 + K3 + K4 + K5 + K6 + K7 + K8 + 3, ?_⟩
    rw [laws_FnExactGapsUpTo.f, if_neg hl, h3 _ (by omega), Option.bind_some, h1 _ (by omega), Option.bind_some, Option.bind_some, h2 _ (by omega), Option.bind_some, h5 _ (by omega), Option.bind_some, if_pos rfl,
      laws_FnExactGapsUpTo.j0, if_neg (by simp), h3 _ (by omega), Option.bind_some, h4 _ (by omega), Option.bind_some, if_pos rfl, show (1 : Int) = ((1 : Nat) : Int) from rfl, h6 _ (by omega), Option.bind_some, if_neg (by omega), h5 _ (by omega), Option.bind_some, if_pos rfl,
      laws_FnExactGapsUpTo.j1, if_neg (by simp), show (1 : Int) = ((1 : Nat) : Int) from rfl, h7 _ (by omega), Option.bind_some, h8 _ (by omega), Option.bind_some, if_neg (by omega), if_pos rfl, h3 _ (by omega), Option.bind_some, h2 _ (by omega), Option.bind_some, h5 _ (by omega), Option.bind_some, if_pos rfl,
      laws_FnExactGapsUpTo.j2, if_neg (by simp), show (1 : Int) = ((1 : Nat) : Int) from rfl, h8 _ (by omega), Option.bind_some, if_neg (by omega), if_pos rfl]

end Go.Proofs.Ytaonlhjblocfkaa.Pure
