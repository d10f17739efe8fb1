/- FnExactCanPay returns true at every list of numbers and every postage: what the program can pay has fewest stamps; no condition. -/
import Derived.Test.YtaonlhjblocfkaaPimplCanPay
import Derived.Test.YtaonlhjblocfkaaPlawsFnExactCanPay
import Derived.Test.YtaonlhjblocfkaaPspecCanPay
import Derived.Test.YtaonlhjblocfkaaXBase
import Derived.Test.YtaonlhjblocfkaaXValues
import Derived.Test.YtaonlhjblocfkaaXFewest
import Derived.Test.YtaonlhjblocfkaaXFewestS
import Derived.Test.YtaonlhjblocfkaaXPay
namespace Go.Proofs.Ytaonlhjblocfkaa.Pure
open Go.RowKit Go.Proofs.Ytaonlhjblocfkaa.P Go.Proofs.YtaonlhjblocfkaaW.PrintWords Go.Proofs.YtaonlhjblocfkaaW.PrintLast
set_option linter.unusedVariables false

theorem both_canPay (l : List Int) (a : Int) (hb : l.length ≤ 17592186044415) : ∃ r, Ev (fun k => spec_CanPay.f k l a) r ∧ Ev (fun k => impl_CanPay.f k l a) r := by
  obtain ⟨c, h1, h2, h3⟩ := bothCode l a 1000 hb
  obtain ⟨K1, h1⟩ := EvG h1
  obtain ⟨K2, h2⟩ := EvG h2
  by_cases hc : c = 0
  · obtain ⟨hv, h0, hm⟩ := h3.1 hc
    obtain ⟨n, rfl⟩ := Int.eq_ofNat_of_zero_le h0
    obtain ⟨K3, h4⟩ := EvG (fewestF l hv.inR (by have := hv.2.1; omega) n (by omega))
    refine ⟨(decide (0 ≤ fw l n), 0), EvI (K1 + K3) fun k hk => ?_, EvI K2 fun k hk => ?_⟩
    · rw [spec_CanPay.f, postageF, Option.bind_some, h1 k (by omega), Option.bind_some, if_pos hc, h4 k (by omega), Option.bind_some, if_pos (by omega), if_pos (by rw [fewL_len]; omega), rdN, fewL_at l n n (Nat.le_refl _)]
    · rw [impl_CanPay.f, h2 k (by omega), Option.bind_some, if_pos hc, payF l hv.inR n (by omega), Option.bind_some, if_pos (by omega), if_pos (by rw [impl_payable.row_len]; omega), rdRow l hv.inR _ _ (by omega)]
  · refine ⟨(false, c), EvI K1 fun k hk => ?_, EvI K2 fun k hk => ?_⟩
    · rw [spec_CanPay.f, postageF, Option.bind_some, h1 k hk, Option.bind_some, if_neg hc]
    · rw [impl_CanPay.f, h2 k hk, Option.bind_some, if_neg hc]

theorem FnExactCanPay : laws_FnExactCanPay.Pure := by
  intro l a _ _ _ _
  by_cases hl : (l.length : Int) > 1048576
  · exact ⟨0, by rw [laws_FnExactCanPay.f, if_pos hl]⟩
  · obtain ⟨r, h1, h2⟩ := both_canPay l a (by omega)
    obtain ⟨K1, h1⟩ := EvG h1
    obtain ⟨K2, h2⟩ := EvG h2
    obtain ⟨K3, h3⟩ := EvG (toI l (by omega))
    obtain ⟨K4, h4⟩ := EvG (eqI l (by omega))
    refine ⟨K1 + K2 + K3 + K4 + 1, ?_⟩
    rw [laws_FnExactCanPay.f, if_neg hl, h3 _ (by omega), Option.bind_some, h1 _ (by omega), Option.bind_some, Option.bind_some, h2 _ (by omega), Option.bind_some, if_neg (by simp), laws_FnExactCanPay.j0, if_neg (by simp), h3 _ (by omega), Option.bind_some, h4 _ (by omega)]
    rfl

end Go.Proofs.Ytaonlhjblocfkaa.Pure
