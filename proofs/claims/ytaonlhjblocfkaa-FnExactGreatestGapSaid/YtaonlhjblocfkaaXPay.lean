/- Which amounts the program can pay are those with fewest stamps; no condition but those that each theorem states. -/
import Derived.Test.YtaonlhjblocfkaaPimplpayable
import Derived.Test.YtaonlhjblocfkaaXBase
import Derived.Test.YtaonlhjblocfkaaXValues
import Derived.Test.YtaonlhjblocfkaaXFewest
namespace Go.Proofs.Ytaonlhjblocfkaa.Pure
open Go.RowKit Go.Proofs.Ytaonlhjblocfkaa.P Go.Proofs.YtaonlhjblocfkaaW.PrintWords Go.Proofs.YtaonlhjblocfkaaW.PrintLast
set_option linter.unusedVariables false
set_option linter.unusedSimpArgs false

/-- An amount can be paid just where some value leads to one that can be paid. -/
theorem fw_pos (vs : List Int) (hvs : InR vs) (n : Nat) : 0 ≤ fw vs (n + 1) ↔ ∃ v, v ∈ vs ∧ v ≤ ((n + 1 : Nat) : Int) ∧ 0 ≤ fw vs (n + 1 - v.toNat) := by
  constructor
  · intro h
    apply Classical.byContradiction
    intro hn
    have : fw vs (n + 1) = -1 := by
      rw [fw_succ]
      refine fold_ind (fun x => x = -1) _ _ _ _ rfl (fun v hv h1 h2 => ?_)
      obtain ⟨h3, h4⟩ := hvs v hv
      rw [fewL_at vs n _ (by omega)] at h2
      exact absurd ⟨v, hv, h1, h2⟩ hn
    omega
  · rintro ⟨v, hv, h1, h2⟩
    obtain ⟨h3, h4⟩ := hvs v hv
    rw [fw_succ]
    rw [← fewL_at vs n _ (by omega)] at h2
    exact (fold_found (fewL vs n) (n + 1) vs (-1) v hv h1 h2).1
theorem row_at (vs : List Int) (hvs : InR vs) : ∀ n j, j < n → (impl_payable.row vs n).getD j false = decide (0 ≤ fw vs j) := by
  intro n
  induction n with
  | zero => intro j h; omega
  | succ n ih =>
    intro j h
    simp only [impl_payable.row, List.getD_eq_getElem?_getD]
    rcases Nat.eq_or_lt_of_le (Nat.le_of_lt_succ h) with e | e
    · subst e
      rw [List.getElem?_append_right (by rw [impl_payable.row_len]; omega), impl_payable.row_len, Nat.sub_self]
      simp only [List.getElem?_cons_zero, Option.getD_some]
      rw [Bool.eq_iff_iff]
      cases j with
      | zero => simp [fw_zero]
      | succ m =>
        rw [decide_eq_true_eq, fw_pos vs hvs m]
        simp only [Bool.or_eq_true, decide_eq_true_eq, List.any_eq_true, Bool.and_eq_true]
        constructor
        · rintro (h0 | ⟨v, hv, h1, h2⟩)
          · omega
          · obtain ⟨h3, h4⟩ := hvs v hv
            have e2 : (((m + 1 : Nat) : Int) - v).toNat = m + 1 - v.toNat := by omega
            rw [e2, ← List.getD_eq_getElem?_getD, ih _ (by omega)] at h2
            exact ⟨v, hv, h1, by simpa using h2⟩
        · rintro ⟨v, hv, h1, h2⟩
          obtain ⟨h3, h4⟩ := hvs v hv
          have e2 : (((m + 1 : Nat) : Int) - v).toNat = m + 1 - v.toNat := by omega
          refine .inr ⟨v, hv, h1, ?_⟩
          rw [e2, ← List.getD_eq_getElem?_getD, ih _ (by omega)]
          simpa using h2
    · rw [List.getElem?_append_left (by rw [impl_payable.row_len]; exact e), ← List.getD_eq_getElem?_getD]
      exact ih j e
theorem payF (vs : List Int) (hvs : InR vs) (m : Nat) (hm : m ≤ 1000000) : impl_payable.f vs (m : Int) = some (impl_payable.row vs (m + 1)) := by
  unfold impl_payable.f
  rw [if_pos ⟨hvs, by omega, by omega⟩]
  congr 2
theorem rdRow (vs : List Int) (hvs : InR vs) (n j : Nat) (h : j < n) : rdOf false (impl_payable.row vs n) (j : Int) = decide (0 ≤ fw vs j) := row_at vs hvs n j h

end Go.Proofs.Ytaonlhjblocfkaa.Pure
