/- The fewest stamps for each amount, by one rule, and what is known of them; no condition but those that each theorem states. -/
import Derived.Test.YtaonlhjblocfkaaXBase
import Derived.Test.YtaonlhjblocfkaaXValues
namespace Go.Proofs.Ytaonlhjblocfkaa.Pure
open Go.RowKit Go.Proofs.Ytaonlhjblocfkaa.P Go.Proofs.YtaonlhjblocfkaaW.PrintWords Go.Proofs.YtaonlhjblocfkaaW.PrintLast
set_option linter.unusedVariables false
set_option linter.unusedSimpArgs false

/-- One value more is tried for the amount a: L tells the fewest stamps of lesser amounts. -/
def stp (L : List Int) (a : Nat) (b v : Int) : Int :=
  if v ≤ a ∧ 0 ≤ L.getD (a - v.toNat) 0 ∧ (b < 0 ∨ L.getD (a - v.toNat) 0 + 1 < b) then L.getD (a - v.toNat) 0 + 1 else b
/-- The fewest stamps for each amount up to n. -/
def fewL (vs : List Int) : Nat → List Int
  | 0 => [0]
  | n + 1 => fewL vs n ++ [vs.foldl (stp (fewL vs n) (n + 1)) (-1)]
theorem fewL_len (vs : List Int) (n : Nat) : (fewL vs n).length = n + 1 := by
  induction n with
  | zero => rfl
  | succ n ih => simp [fewL, ih]
def fw (vs : List Int) (a : Nat) : Int := (fewL vs a).getD a 0
theorem fewL_at (vs : List Int) (n j : Nat) (h : j ≤ n) : (fewL vs n).getD j 0 = fw vs j := by
  induction n with
  | zero => obtain rfl : j = 0 := by omega
            rfl
  | succ n ih =>
    rcases Nat.eq_or_lt_of_le h with e | e
    · subst e; rfl
    · rw [fewL, ← ih (by omega)]
      simp only [List.getD_eq_getElem?_getD]
      rw [List.getElem?_append_left (by rw [fewL_len]; omega)]
theorem fw_zero (vs : List Int) : fw vs 0 = 0 := rfl
theorem fw_succ (vs : List Int) (n : Nat) : fw vs (n + 1) = vs.foldl (stp (fewL vs n) (n + 1)) (-1) := by
  rw [fw, fewL]
  simp only [List.getD_eq_getElem?_getD]
  rw [List.getElem?_append_right (by rw [fewL_len]; omega), fewL_len]
  simp
theorem drop_step (l : List Int) (i : Nat) (h : i < l.length) : l.drop i = l.getD i 0 :: l.drop (i + 1) := by
  rw [List.drop_eq_getElem_cons h, getD_eq l i h]

/-- What holds of both choices, step by step. -/
theorem fold_ind (P : Int → Prop) (L : List Int) (a : Nat) (vs : List Int) (b : Int) (hb : P b) (hs : ∀ v, v ∈ vs → v ≤ a → 0 ≤ L.getD (a - v.toNat) 0 → P (L.getD (a - v.toNat) 0 + 1)) : P (vs.foldl (stp L a) b) := by
  induction vs generalizing b with
  | nil => exact hb
  | cons v vs ih =>
    rw [List.foldl_cons]
    refine ih _ ?_ (fun u hu => hs u (List.mem_cons_of_mem _ hu))
    unfold stp
    split
    · rename_i h; exact hs v List.mem_cons_self h.1 h.2.1
    · exact hb
theorem fold_keep (L : List Int) (a : Nat) (vs : List Int) (b : Int) (hb : 0 ≤ b) : 0 ≤ vs.foldl (stp L a) b ∧ vs.foldl (stp L a) b ≤ b := by
  induction vs generalizing b with
  | nil => exact ⟨hb, Int.le_refl b⟩
  | cons v vs ih =>
    rw [List.foldl_cons]
    have h1 : 0 ≤ stp L a b v ∧ stp L a b v ≤ b := by unfold stp; split <;> omega
    have h2 := ih (stp L a b v) h1.1
    omega
/-- Where some value serves, the fold finds one as good. -/
theorem fold_found (L : List Int) (a : Nat) (vs : List Int) (b v : Int) (hv : v ∈ vs) (h1 : v ≤ a) (h2 : 0 ≤ L.getD (a - v.toNat) 0) : 0 ≤ vs.foldl (stp L a) b ∧ vs.foldl (stp L a) b ≤ L.getD (a - v.toNat) 0 + 1 := by
  induction vs generalizing b with
  | nil => cases hv
  | cons u vs ih =>
    rw [List.foldl_cons]
    rcases List.mem_cons.1 hv with e | e
    · subst e
      have h3 : 0 ≤ stp L a b v ∧ stp L a b v ≤ L.getD (a - v.toNat) 0 + 1 := by unfold stp; split <;> omega
      have h4 := fold_keep L a vs _ h3.1
      omega
    · exact ih _ e

/-- Values of 1 to 500. -/
def InR (vs : List Int) : Prop := ∀ v, v ∈ vs → 1 ≤ v ∧ v ≤ 500
theorem VV.inR {l : List Int} (h : VV l) : InR l := by
  intro v hv
  obtain ⟨j, hj, e⟩ := List.getElem_of_mem hv
  have := h.2.2.1 j hj
  rwa [getD_eq l j hj, e] at this

theorem fw_lo (vs : List Int) (n : Nat) : -1 ≤ fw vs n := by
  cases n with
  | zero => rw [fw_zero]; omega
  | succ n => rw [fw_succ]; exact fold_ind (fun x => -1 ≤ x) _ _ _ _ (Int.le_refl _) (fun v _ _ h => by omega)
/-- No more stamps than the amount; each of at most 500. -/
theorem fw_bd (vs : List Int) (hvs : InR vs) (n : Nat) : fw vs n ≤ n ∧ (0 ≤ fw vs n → (n : Int) ≤ 500 * fw vs n) := by
  induction n using Nat.strongRecOn with
  | _ n ih =>
    cases n with
    | zero => rw [fw_zero]; omega
    | succ n =>
      rw [fw_succ]
      refine fold_ind (fun x => x ≤ ((n + 1 : Nat) : Int) ∧ (0 ≤ x → ((n + 1 : Nat) : Int) ≤ 500 * x)) _ _ _ _ ⟨by omega, fun h => absurd h (by omega)⟩ (fun v hv h1 h2 => ?_)
      obtain ⟨h3, h4⟩ := hvs v hv
      rw [fewL_at vs n _ (by omega)] at h2 ⊢
      have h5 := ih (n + 1 - v.toNat) (by omega)
      have h6 := h5.2 h2
      constructor
      · omega
      · intro _; omega
theorem fewL_bd (vs : List Int) (hvs : InR vs) (n j : Nat) : (fewL vs n).getD j 0 ≤ n := by
  rcases Nat.lt_or_ge n j with h | h
  · rw [List.getD_eq_getElem?_getD, List.getElem?_eq_none (by rw [fewL_len]; omega)]
    simp
  · rw [fewL_at vs n j h]
    have := (fw_bd vs hvs j).1
    omega

end Go.Proofs.Ytaonlhjblocfkaa.Pure
