/- FnExactLeastOver returns true at every list of numbers and every postage: both look for the first amount that can be paid; no condition. -/
import Derived.Test.YtaonlhjblocfkaaPimplLeastOver
import Derived.Test.YtaonlhjblocfkaaPlawsFnExactLeastOver
import Derived.Test.YtaonlhjblocfkaaPspecLeastOver
import Derived.Test.YtaonlhjblocfkaaXBase
import Derived.Test.YtaonlhjblocfkaaXValues
import Derived.Test.YtaonlhjblocfkaaXFewest
import Derived.Test.YtaonlhjblocfkaaXFewestS
import Derived.Test.YtaonlhjblocfkaaXPay
namespace Go.Proofs.Ytaonlhjblocfkaa.Pure
open Go.RowKit Go.Proofs.Ytaonlhjblocfkaa.P Go.Proofs.YtaonlhjblocfkaaW.PrintWords Go.Proofs.YtaonlhjblocfkaaW.PrintLast
set_option linter.unusedVariables false

/-- A multiple of a value can be paid. -/
theorem fw_mul (vs : List Int) (hvs : InR vs) (v : Nat) (hv : (v : Int) ∈ vs) (q : Nat) : 0 ≤ fw vs (q * v) := by
  induction q with
  | zero => rw [Nat.zero_mul, fw_zero]; omega
  | succ q ih =>
    have h1 := (hvs _ hv).1
    have e : (q + 1) * v = q * v + v := by rw [Nat.add_mul, Nat.one_mul]
    obtain ⟨n, hn⟩ : ∃ n, (q + 1) * v = n + 1 := ⟨q * v + v - 1, by omega⟩
    rw [hn, fw_pos vs hvs n]
    refine ⟨v, hv, by omega, ?_⟩
    have e2 : n + 1 - ((v : Int)).toNat = q * v := by rw [Int.toNat_natCast]; omega
    rw [e2]; exact ih

theorem over_l0 (vs : List Int) (hvs : InR vs) (m : Nat) (hm : m ≤ 900000) : ∀ d n, m - n = d → n ≤ m → (∃ j, n ≤ j ∧ j ≤ m ∧ 0 ≤ fw vs j) →
    ∃ r, Ev (fun k => spec_LeastOver.l0 k (n : Int) (fewL vs m)) r ∧ Ev (fun k => impl_LeastOver.l0 k (n : Int) (impl_payable.row vs (m + 1))) r := by
  intro d
  induction d with
  | zero =>
    intro n hd hn ⟨j, h1, h2, h3⟩
    obtain rfl : j = n := by omega
    refine ⟨((j : Int), 0), Ev.step (f := fun _ => some ((j : Int), 0)) (fun k => ?_) (Ev.now _), Ev.step (f := fun _ => some ((j : Int), 0)) (fun k => ?_) (Ev.now _)⟩
    · rw [spec_LeastOver.l0, if_pos (by omega), if_pos (by rw [fewL_len]; omega), rdN, fewL_at vs m j (by omega), if_neg (by omega)]
    · rw [impl_LeastOver.l0, if_pos (by omega), if_pos (by rw [impl_payable.row_len]; omega), rdRow vs hvs _ _ (by omega), if_pos (by simpa using h3)]
  | succ d ih =>
    intro n hd hn ⟨j, h1, h2, h3⟩
    by_cases h0 : 0 ≤ fw vs n
    · refine ⟨((n : Int), 0), Ev.step (f := fun _ => some ((n : Int), 0)) (fun k => ?_) (Ev.now _), Ev.step (f := fun _ => some ((n : Int), 0)) (fun k => ?_) (Ev.now _)⟩
      · rw [spec_LeastOver.l0, if_pos (by omega), if_pos (by rw [fewL_len]; omega), rdN, fewL_at vs m n (by omega), if_neg (by omega)]
      · rw [impl_LeastOver.l0, if_pos (by omega), if_pos (by rw [impl_payable.row_len]; omega), rdRow vs hvs _ _ (by omega), if_pos (by simpa using h0)]
    · have hj : n ≠ j := fun e => h0 (by rw [e]; exact h3)
      obtain ⟨r, h4, h5⟩ := ih (n + 1) (by omega) (by omega) ⟨j, by omega, h2, h3⟩
      refine ⟨r, Ev.step (fun k => ?_) h4, Ev.step (fun k => ?_) h5⟩
      · rw [spec_LeastOver.l0, if_pos (by omega), if_pos (by rw [fewL_len]; omega), rdN, fewL_at vs m n (by omega), if_pos (by omega), wN n (by omega)]
      · rw [impl_LeastOver.l0, if_pos (by omega), if_pos (by rw [impl_payable.row_len]; omega), rdRow vs hvs _ _ (by omega), if_neg (by simpa using h0), wN n (by omega)]

theorem both_over (l : List Int) (a : Int) (hb : l.length ≤ 17592186044415) : ∃ r, Ev (fun k => spec_LeastOver.f k l a) r ∧ Ev (fun k => impl_LeastOver.f k l a) r := by
  obtain ⟨c, h1, h2, h3⟩ := bothCode l a 1000 hb
  obtain ⟨K1, h1⟩ := EvG h1
  obtain ⟨K2, h2⟩ := EvG h2
  by_cases hc : c = 0
  · obtain ⟨hv, h0, hm⟩ := h3.1 hc
    obtain ⟨n, rfl⟩ := Int.eq_ofNat_of_zero_le h0
    have hw : wrap64 ((n : Int) + 500) = ((n + 500 : Nat) : Int) := by rw [w64 (by omega) (by omega)]; omega
    obtain ⟨K3, h4⟩ := EvG (fewestF l hv.inR (by have := hv.2.1; omega) (n + 500) (by omega))
    obtain ⟨h5, h6⟩ := hv.2.2.1 0 (by have := hv.1; omega)
    have hmem := getD_mem l 0 (by have := hv.1; omega)
    obtain ⟨v, ev⟩ : ∃ v : Nat, l.getD 0 0 = (v : Int) := ⟨(l.getD 0 0).toNat, by omega⟩
    rw [ev] at hmem h5 h6
    have hdiv := Nat.div_add_mod (n + v - 1) v
    have hmod := Nat.mod_lt (n + v - 1) (show v > 0 by omega)
    have hcomm : v * ((n + v - 1) / v) = (n + v - 1) / v * v := Nat.mul_comm _ _
    obtain ⟨r, h7, h8⟩ := over_l0 l hv.inR (n + 500) (by omega) _ n rfl (by omega) ⟨(n + v - 1) / v * v, by omega, by omega, fw_mul l hv.inR v hmem _⟩
    obtain ⟨K4, h7⟩ := EvG h7
    obtain ⟨K5, h8⟩ := EvG h8
    refine ⟨r, EvI (K1 + K3 + K4) fun k hk => ?_, EvI (K2 + K5) fun k hk => ?_⟩
    · rw [spec_LeastOver.f, postageF, Option.bind_some, h1 k (by omega), Option.bind_some, if_pos hc, hw, h4 k (by omega), Option.bind_some, h7 k (by omega)]
    · rw [impl_LeastOver.f, h2 k (by omega), Option.bind_some, if_pos hc, hw, payF l hv.inR _ (by omega), Option.bind_some, h8 k (by omega)]
  · refine ⟨(0, c), EvI K1 fun k hk => ?_, EvI K2 fun k hk => ?_⟩
    · rw [spec_LeastOver.f, postageF, Option.bind_some, h1 k hk, Option.bind_some, if_neg hc]
    · rw [impl_LeastOver.f, h2 k hk, Option.bind_some, if_neg hc]

theorem FnExactLeastOver : laws_FnExactLeastOver.Pure := by
  intro l a _ _ _ _
  by_cases hl : (l.length : Int) > 1048576
  · exact ⟨0, by rw [laws_FnExactLeastOver.f, if_pos hl]⟩
  · obtain ⟨r, h1, h2⟩ := both_over l a (by omega)
    obtain ⟨K1, h1⟩ := EvG h1
    obtain ⟨K2, h2⟩ := EvG h2
    obtain ⟨K3, h3⟩ := EvG (toI l (by omega))
    obtain ⟨K4, h4⟩ := EvG (eqI l (by omega))
    refine ⟨K1 + K2 + K3 + K4 + 1, ?_⟩
    rw [laws_FnExactLeastOver.f, if_neg hl, h3 _ (by omega), Option.bind_some, h1 _ (by omega), Option.bind_some, Option.bind_some, h2 _ (by omega), Option.bind_some, if_pos rfl, laws_FnExactLeastOver.j0, if_neg (by simp), h3 _ (by omega), Option.bind_some, h4 _ (by omega)]
    rfl

end Go.Proofs.Ytaonlhjblocfkaa.Pure
