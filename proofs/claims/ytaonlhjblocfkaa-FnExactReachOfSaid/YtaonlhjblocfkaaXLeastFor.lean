/- The program's least stamps for one amount come to the common rule; no condition but those that each theorem states. -/
import Derived.Test.YtaonlhjblocfkaaPimplleastFor
import Derived.Test.YtaonlhjblocfkaaXBase
import Derived.Test.YtaonlhjblocfkaaXValues
import Derived.Test.YtaonlhjblocfkaaXFewest
namespace Go.Proofs.Ytaonlhjblocfkaa.Pure
open Go.RowKit Go.Proofs.Ytaonlhjblocfkaa.P Go.Proofs.YtaonlhjblocfkaaW.PrintWords Go.Proofs.YtaonlhjblocfkaaW.PrintLast
set_option linter.unusedVariables false
set_option linter.unusedSimpArgs false

theorem lf_l0 (vs : List Int) (hvs : InR vs) (hn : vs.length ≤ 1000) (L : List Int) (a : Nat) (ha : a ≤ 1000000) (hL : a ≤ L.length) (hLb : ∀ j, L.getD j 0 ≤ 1000000) : ∀ d i b, vs.length - i = d → i ≤ vs.length →
    Ev (fun k => impl_leastFor.l0 k L (a : Int) b vs (vs.length : Int) (i : Int)) ((vs.drop i).foldl (stp L a) b) := by
  intro d
  induction d with
  | zero =>
    intro i b hd hi
    rw [List.drop_eq_nil_of_le (by omega)]
    refine Ev.step (f := fun _ => some b) (fun k => ?_) (Ev.now b)
    rw [impl_leastFor.l0, if_neg (by omega)]
  | succ d ih =>
    intro i b hd hi
    have hlt : i < vs.length := by omega
    rw [drop_step vs i hlt, List.foldl_cons]
    refine Ev.step (fun k => ?_) (ih (i + 1) (stp L a b (vs.getD i 0)) (by omega) (by omega))
    obtain ⟨h1, h2⟩ := hvs _ (getD_mem vs i hlt)
    obtain ⟨v, hv⟩ : ∃ v : Nat, vs.getD i 0 = (v : Int) := ⟨(vs.getD i 0).toNat, by omega⟩
    rw [impl_leastFor.l0, if_pos (by omega), if_pos (by omega), if_pos (by omega), rdN, hv, wN i (by omega)]
    unfold stp
    rw [Int.toNat_natCast]
    by_cases hva : (v : Int) ≤ a
    · have e : wrap64 ((a : Int) - (v : Int)) = ((a - v : Nat) : Int) := by rw [w64 (by omega) (by omega)]; omega
      rw [if_pos hva, e, if_pos (by omega), if_pos (by omega), rdN]
      have hb := hLb (a - v)
      by_cases h0 : L.getD (a - v) 0 ≥ 0
      · rw [if_pos h0, w64 (by omega) (by omega)]
        by_cases hb0 : b < 0
        · rw [if_pos hb0, if_pos ⟨hva, h0, .inl hb0⟩]
        · rw [if_neg hb0]
          by_cases hb1 : L.getD (a - v) 0 + 1 < b
          · rw [if_pos hb1, if_pos ⟨hva, h0, .inr hb1⟩]
          · rw [if_neg hb1, if_neg (fun h => by omega)]
      · rw [if_neg h0, if_neg (fun h => h0 h.2.1)]
    · rw [if_neg hva, if_neg (fun h => hva h.1)]
theorem lf (vs : List Int) (hvs : InR vs) (hn : vs.length ≤ 1000) (n : Nat) (ha : n ≤ 900000) : Ev (fun k => impl_leastFor.f k vs (fewL vs n) (((n + 1 : Nat)) : Int)) (fw vs (n + 1)) := by
  rw [fw_succ]
  exact lf_l0 vs hvs hn (fewL vs n) (n + 1) (by omega) (by rw [fewL_len]; omega) (fun j => by have := fewL_bd vs hvs n j; omega) _ 0 (-1) rfl (Nat.zero_le _)

end Go.Proofs.Ytaonlhjblocfkaa.Pure
