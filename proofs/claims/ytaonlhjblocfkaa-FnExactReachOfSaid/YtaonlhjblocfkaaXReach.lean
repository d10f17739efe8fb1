/- The reach of values is the same in the reference and in the program; no condition but those that each theorem states. -/
import Derived.Test.YtaonlhjblocfkaaPimplreach
import Derived.Test.YtaonlhjblocfkaaPspecl01Reach
import Derived.Test.YtaonlhjblocfkaaXBase
import Derived.Test.YtaonlhjblocfkaaXValues
import Derived.Test.YtaonlhjblocfkaaXFewest
import Derived.Test.YtaonlhjblocfkaaXLeastFor
namespace Go.Proofs.Ytaonlhjblocfkaa.Pure
open Go.RowKit Go.Proofs.Ytaonlhjblocfkaa.P Go.Proofs.YtaonlhjblocfkaaW.PrintWords Go.Proofs.YtaonlhjblocfkaaW.PrintLast
set_option linter.unusedVariables false
set_option linter.unusedSimpArgs false

theorem sr_l1 (vs : List Int) (hvs : InR vs) (hn : vs.length ≤ 1000) (st : Int) (n : Nat) (ha : n ≤ 900000) (r : Int)
    (H : Ev (fun k => if fw vs (n + 1) < 0 then some (wrap64 (((n + 1 : Nat) : Int) - 1)) else if fw vs (n + 1) > st then some (wrap64 (((n + 1 : Nat) : Int) - 1)) else if (fewL vs n).length < 17592186044416 then spec_l01Reach.l0 k vs st (fewL vs n ++ [fw vs (n + 1)]) (wrap64 (((n + 1 : Nat) : Int) + 1)) else none) r) :
    ∀ d i (b : Int), vs.length - i = d → i ≤ vs.length → (vs.drop i).foldl (stp (fewL vs n) (n + 1)) b = fw vs (n + 1) →
    Ev (fun k => spec_l01Reach.l1 k vs st (fewL vs n) ((n + 1 : Nat) : Int) b (i : Int)) r := by
  intro d
  induction d with
  | zero =>
    intro i b hd hi hf
    rw [List.drop_eq_nil_of_le (by omega)] at hf
    obtain rfl : b = fw vs (n + 1) := hf
    refine Ev.step (fun k => ?_) H
    rw [spec_l01Reach.l1, if_neg (by omega)]
  | succ d ih =>
    intro i b hd hi hf
    have hlt : i < vs.length := by omega
    rw [drop_step vs i hlt, List.foldl_cons] at hf
    have hi' := ih (i + 1) _ (by omega) (by omega) hf
    refine Ev.step (fun k => ?_) hi'
    obtain ⟨h1, h2⟩ := hvs _ (getD_mem vs i hlt)
    obtain ⟨v, hv⟩ : ∃ v : Nat, vs.getD i 0 = (v : Int) := ⟨(vs.getD i 0).toNat, by omega⟩
    rw [spec_l01Reach.l1, if_pos (by omega), if_pos (by omega), rdN, hv, wN i (by omega)]
    unfold stp
    rw [Int.toNat_natCast]
    by_cases hva : (v : Int) ≤ ((n + 1 : Nat) : Int)
    · have e : wrap64 (((n + 1 : Nat) : Int) - (v : Int)) = ((n + 1 - v : Nat) : Int) := by rw [w64 (by omega) (by omega)]; omega
      have hbd := fewL_bd vs hvs n (n + 1 - v)
      rw [if_pos hva, e, if_pos (by omega), if_pos (by rw [fewL_len]; omega), rdN]
      by_cases h0 : (fewL vs n).getD (n + 1 - v) 0 ≥ 0
      · rw [if_pos h0, w64 (by omega) (by omega)]
        by_cases hb0 : b < 0
        · rw [if_pos hb0, if_pos ⟨hva, h0, .inl hb0⟩]
        · rw [if_neg hb0]
          by_cases hb1 : (fewL vs n).getD (n + 1 - v) 0 + 1 < b
          · rw [if_pos hb1, if_pos ⟨hva, h0, .inr hb1⟩]
          · rw [if_neg hb1, if_neg (fun h => by omega)]
      · rw [if_neg h0, if_neg (fun h => h0 h.2.1)]
    · rw [if_neg hva, if_neg (fun h => hva h.1)]
theorem reach_l0 (vs : List Int) (hvs : InR vs) (hn : vs.length ≤ 1000) (st : Int) (hst : st ≤ 12) : ∀ d n, 6001 - n = d → n ≤ 6001 →
    ∃ r, Ev (fun k => spec_l01Reach.l0 k vs st (fewL vs n) ((n + 1 : Nat) : Int)) r ∧ Ev (fun k => impl_reach.l0 k vs st (fewL vs n) ((n + 1 : Nat) : Int)) r := by
  intro d
  induction d with
  | zero =>
    intro n hd hn2
    have hb := fw_bd vs hvs (n + 1)
    obtain ⟨K, hk⟩ := EvG (lf vs hvs hn n (by omega))
    have hor : fw vs (n + 1) < 0 ∨ fw vs (n + 1) > st := by omega
    refine ⟨wrap64 (((n + 1 : Nat) : Int) - 1), Ev.step (fun k => ?_) (sr_l1 vs hvs hn st n (by omega) _ ?_ _ 0 (-1) rfl (Nat.zero_le _) (fw_succ vs n).symm), EvI (K + 1) fun k hk2 => ?_⟩
    · rw [spec_l01Reach.l0]; rfl
    · refine EvI 0 fun k _ => ?_
      split
      · rfl
      · rw [if_pos (by omega)]
    · obtain ⟨k, rfl⟩ : ∃ m, k = m + 1 := ⟨k - 1, by omega⟩
      rw [impl_reach.l0, hk k (by omega), Option.bind_some]
      split
      · rfl
      · rw [if_pos (by omega)]
  | succ d ih =>
    intro n hd hn2
    obtain ⟨K, hk⟩ := EvG (lf vs hvs hn n (by omega))
    by_cases hor : fw vs (n + 1) < 0 ∨ fw vs (n + 1) > st
    · refine ⟨wrap64 (((n + 1 : Nat) : Int) - 1), Ev.step (fun k => ?_) (sr_l1 vs hvs hn st n (by omega) _ ?_ _ 0 (-1) rfl (Nat.zero_le _) (fw_succ vs n).symm), EvI (K + 1) fun k hk2 => ?_⟩
      · rw [spec_l01Reach.l0]; rfl
      · refine EvI 0 fun k _ => ?_
        split
        · rfl
        · rw [if_pos (by omega)]
      · obtain ⟨k, rfl⟩ : ∃ m, k = m + 1 := ⟨k - 1, by omega⟩
        rw [impl_reach.l0, hk k (by omega), Option.bind_some]
        split
        · rfl
        · rw [if_pos (by omega)]
    · obtain ⟨r, h1, h2⟩ := ih (n + 1) (by omega) (by omega)
      have e : fewL vs n ++ [fw vs (n + 1)] = fewL vs (n + 1) := by rw [fw_succ]; rfl
      obtain ⟨K2, h2⟩ := EvG h2
      refine ⟨r, Ev.step (fun k => ?_) (sr_l1 vs hvs hn st n (by omega) r (Ev.congr (fun k => ?_) h1) _ 0 (-1) rfl (Nat.zero_le _) (fw_succ vs n).symm), EvI (K + K2 + 1) fun k hk2 => ?_⟩
      · rw [spec_l01Reach.l0]; rfl
      · rw [if_neg (by omega), if_neg (by omega), if_pos (by rw [fewL_len]; omega), e, wN (n + 1) (by omega)]
      · obtain ⟨k, rfl⟩ : ∃ m, k = m + 1 := ⟨k - 1, by omega⟩
        rw [impl_reach.l0, hk k (by omega), Option.bind_some, if_neg (by omega), if_neg (by omega), if_pos (by rw [fewL_len]; omega), e, wN (n + 1) (by omega)]
        exact h2 k (by omega)
theorem bothReach (vs : List Int) (hvs : InR vs) (hn : vs.length ≤ 1000) (st : Int) (hst : st ≤ 12) : ∃ r, Ev (fun k => spec_l01Reach.f k vs st) r ∧ Ev (fun k => impl_reach.f k vs st) r :=
  reach_l0 vs hvs hn st hst _ 0 rfl (by omega)

end Go.Proofs.Ytaonlhjblocfkaa.Pure
