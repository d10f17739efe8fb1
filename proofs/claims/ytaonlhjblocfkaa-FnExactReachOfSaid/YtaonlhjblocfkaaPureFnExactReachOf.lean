/- FnExactReachOf returns true at every list of numbers and every number of stamps: the reference's and the program's reach are the same; no condition. -/
import Derived.Test.YtaonlhjblocfkaaPimplReachOf
import Derived.Test.YtaonlhjblocfkaaPlawsFnExactReachOf
import Derived.Test.YtaonlhjblocfkaaPspecReachOf
import Derived.Test.YtaonlhjblocfkaaPspecl01Stamps
import Derived.Test.YtaonlhjblocfkaaXBase
import Derived.Test.YtaonlhjblocfkaaXValues
import Derived.Test.YtaonlhjblocfkaaXFewest
import Derived.Test.YtaonlhjblocfkaaXReach
namespace Go.Proofs.Ytaonlhjblocfkaa.Pure
open Go.RowKit Go.Proofs.Ytaonlhjblocfkaa.P Go.Proofs.YtaonlhjblocfkaaW.PrintWords Go.Proofs.YtaonlhjblocfkaaW.PrintLast
set_option linter.unusedVariables false

theorem both_reachOf (l : List Int) (a : Int) (hb : l.length ≤ 17592186044415) : ∃ r, Ev (fun k => spec_ReachOf.f k l a) r ∧ Ev (fun k => impl_ReachOf.f k l a) r := by
  obtain ⟨c, h1, h2, h3⟩ := bothCode l a 12 hb
  obtain ⟨K1, h1⟩ := EvG h1
  obtain ⟨K2, h2⟩ := EvG h2
  have hs : spec_l01Stamps.f a = some (decide (0 ≤ a) && decide (a ≤ 12)) := by rw [spec_l01Stamps.f, inF]; rfl
  by_cases hc : c = 0
  · obtain ⟨hv, h0, hm⟩ := h3.1 hc
    obtain ⟨r, h4, h5⟩ := bothReach l hv.inR (by have := hv.2.1; omega) a hm
    obtain ⟨K3, h4⟩ := EvG h4
    obtain ⟨K4, h5⟩ := EvG h5
    refine ⟨(r, 0), EvI (K1 + K3) fun k hk => ?_, EvI (K2 + K4) fun k hk => ?_⟩
    · rw [spec_ReachOf.f, hs, Option.bind_some, h1 k (by omega), Option.bind_some, if_pos hc, h4 k (by omega)]; rfl
    · rw [impl_ReachOf.f, h2 k (by omega), Option.bind_some, if_pos hc, h5 k (by omega)]; rfl
  · refine ⟨(0, c), EvI K1 fun k hk => ?_, EvI K2 fun k hk => ?_⟩
    · rw [spec_ReachOf.f, hs, Option.bind_some, h1 k hk, Option.bind_some, if_neg hc]
    · rw [impl_ReachOf.f, h2 k hk, Option.bind_some, if_neg hc]

theorem FnExactReachOf : laws_FnExactReachOf.Pure := by
  intro l a _ _ _ _
  by_cases hl : (l.length : Int) > 1048576
  · exact ⟨0, by rw [laws_FnExactReachOf.f, if_pos hl]⟩
  · obtain ⟨r, h1, h2⟩ := both_reachOf l a (by omega)
    obtain ⟨K1, h1⟩ := EvG h1
    obtain ⟨K2, h2⟩ := EvG h2
    obtain ⟨K3, h3⟩ := EvG (toI l (by omega))
    obtain ⟨K4, h4⟩ := EvG (eqI l (by omega))
    refine ⟨K1 + K2 + K3 + K4 + 1, ?_⟩
    rw [laws_FnExactReachOf.f, if_neg hl, h3 _ (by omega), Option.bind_some, h1 _ (by omega), Option.bind_some, Option.bind_some, h2 _ (by omega), Option.bind_some, if_pos rfl, laws_FnExactReachOf.j0, if_neg (by simp), h3 _ (by omega), Option.bind_some, h4 _ (by omega)]
    rfl

end Go.Proofs.Ytaonlhjblocfkaa.Pure
