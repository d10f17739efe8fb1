/- The reference's fewest stamps for all amounts come to the common rule; no condition but those that each theorem states. -/
import Derived.Test.YtaonlhjblocfkaaPspecl01Fewest
import Derived.Test.YtaonlhjblocfkaaXBase
import Derived.Test.YtaonlhjblocfkaaXValues
import Derived.Test.YtaonlhjblocfkaaXFewest
namespace Go.Proofs.Ytaonlhjblocfkaa.Pure
open Go.RowKit Go.Proofs.Ytaonlhjblocfkaa.P Go.Proofs.YtaonlhjblocfkaaW.PrintWords Go.Proofs.YtaonlhjblocfkaaW.PrintLast
set_option linter.unusedVariables false
set_option linter.unusedSimpArgs false

theorem sf_l1 (vs : List Int) (hvs : InR vs) (hn : vs.length ≤ 1000) (m n : Nat) (hm : m ≤ 900000) (hnm : n + 1 ≤ m) (r : List Int)
    (H : ∀ x : List Int, x.length = m + 1 → (∀ j, j ≤ n + 1 → x.getD j 0 = fw vs j) → Ev (fun k => spec_l01Fewest.l0 k vs (m : Int) x ((n + 2 : Nat) : Int)) r) :
    ∀ d i (b : Int) (x : List Int), vs.length - i = d → i ≤ vs.length → x.length = m + 1 → (∀ j, j ≤ n → x.getD j 0 = fw vs j) → x.getD (n + 1) 0 = b → (vs.drop i).foldl (stp (fewL vs n) (n + 1)) b = fw vs (n + 1) →
    Ev (fun k => spec_l01Fewest.l1 k vs (m : Int) x ((n + 1 : Nat) : Int) (i : Int)) r := by
  intro d
  induction d with
  | zero =>
    intro i b x hd hi hx hj hb hf
    rw [List.drop_eq_nil_of_le (by omega)] at hf
    refine Ev.step (fun k => ?_) (H x hx (fun j h => ?_))
    · rw [spec_l01Fewest.l1, if_neg (by omega), wN (n + 1) (by omega)]
    · rcases Nat.eq_or_lt_of_le h with e | e
      · rw [e, hb]; exact hf
      · exact hj j (by omega)
  | succ d ih =>
    intro i b x hd hi hx hj hb hf
    have hlt : i < vs.length := by omega
    rw [drop_step vs i hlt, List.foldl_cons] at hf
    obtain ⟨h1, h2⟩ := hvs _ (getD_mem vs i hlt)
    obtain ⟨v, hv⟩ : ∃ v : Nat, vs.getD i 0 = (v : Int) := ⟨(vs.getD i 0).toNat, by omega⟩
    rw [hv] at hf h1 h2
    have go : ∀ b' : Int, stp (fewL vs n) (n + 1) b (v : Int) = b' → Ev (fun k => spec_l01Fewest.l1 k vs (m : Int) (x.set (n + 1) b') ((n + 1 : Nat) : Int) ((i + 1 : Nat) : Int)) r := by
      intro b' hb'
      refine ih (i + 1) b' (x.set (n + 1) b') (by omega) (by omega) (by simpa using hx) (fun j h => ?_) ?_ (by rw [← hb']; exact hf)
      · rw [getD_set x (n + 1) j _ (by omega), if_neg (by omega)]; exact hj j h
      · rw [getD_set x (n + 1) (n + 1) _ (by omega), if_pos rfl]
    have same : stp (fewL vs n) (n + 1) b (v : Int) = b → Ev (fun k => spec_l01Fewest.l1 k vs (m : Int) x ((n + 1 : Nat) : Int) ((i + 1 : Nat) : Int)) r := by
      intro hb'
      exact ih (i + 1) b x (by omega) (by omega) hx hj hb (by rw [hb'] at hf; exact hf)
    by_cases hva : (v : Int) ≤ ((n + 1 : Nat) : Int)
    · have e : wrap64 (((n + 1 : Nat) : Int) - (v : Int)) = ((n + 1 - v : Nat) : Int) := by rw [w64 (by omega) (by omega)]; omega
      have hL : x.getD (n + 1 - v) 0 = (fewL vs n).getD (n + 1 - v) 0 := by rw [hj _ (by omega), fewL_at vs n _ (by omega)]
      have hbd := fewL_bd vs hvs n (n + 1 - v)
      by_cases h0 : (fewL vs n).getD (n + 1 - v) 0 ≥ 0
      · by_cases hb0 : b < 0
        · refine Ev.step (fun k => ?_) (go _ rfl)
          unfold stp
          rw [spec_l01Fewest.l1, if_pos (by omega), if_pos (by omega), rdN, hv, if_pos hva, e, if_pos (by omega), if_pos (by omega), rdN, hL, if_pos h0, if_pos (by omega), if_pos (by omega), rdN, hb, if_pos hb0, Int.toNat_natCast, Int.toNat_natCast, if_pos ⟨hva, h0, .inl hb0⟩, w64 (by omega) (by omega), wN i (by omega)]
        · by_cases hb1 : (fewL vs n).getD (n + 1 - v) 0 + 1 < b
          · refine Ev.step (fun k => ?_) (go _ rfl)
            unfold stp
            rw [spec_l01Fewest.l1, if_pos (by omega), if_pos (by omega), rdN, hv, if_pos hva, e, if_pos (by omega), if_pos (by omega), rdN, hL, if_pos h0, if_pos (by omega), if_pos (by omega), rdN, hb, if_neg hb0, w64 (by omega) (by omega), if_pos hb1, Int.toNat_natCast, Int.toNat_natCast, if_pos ⟨hva, h0, .inr hb1⟩, wN i (by omega)]
          · refine Ev.step (fun k => ?_) (same (by unfold stp; rw [Int.toNat_natCast, if_neg (fun h => by omega)]))
            rw [spec_l01Fewest.l1, if_pos (by omega), if_pos (by omega), rdN, hv, if_pos hva, e, if_pos (by omega), if_pos (by omega), rdN, hL, if_pos h0, if_pos (by omega), if_pos (by omega), rdN, hb, if_neg hb0, w64 (by omega) (by omega), if_neg hb1, wN i (by omega)]
      · refine Ev.step (fun k => ?_) (same (by unfold stp; rw [Int.toNat_natCast, if_neg (fun h => h0 h.2.1)]))
        rw [spec_l01Fewest.l1, if_pos (by omega), if_pos (by omega), rdN, hv, if_pos hva, e, if_pos (by omega), if_pos (by omega), rdN, hL, if_neg h0, wN i (by omega)]
    · refine Ev.step (fun k => ?_) (same (by unfold stp; rw [if_neg (fun h => hva h.1)]))
      rw [spec_l01Fewest.l1, if_pos (by omega), if_pos (by omega), rdN, hv, if_neg hva, wN i (by omega)]
theorem sf_l0 (vs : List Int) (hvs : InR vs) (hn : vs.length ≤ 1000) (m : Nat) (hm : m ≤ 900000) : ∀ d n (x : List Int), m - n = d → n ≤ m → x.length = m + 1 → (∀ j, j ≤ n → x.getD j 0 = fw vs j) →
    Ev (fun k => spec_l01Fewest.l0 k vs (m : Int) x ((n + 1 : Nat) : Int)) (fewL vs m) := by
  intro d
  induction d with
  | zero =>
    intro n x hd hnm hx hj
    obtain rfl : n = m := by omega
    have : x = fewL vs n := list_ext x _ (by rw [fewL_len]; exact hx) (fun j h => by rw [fewL_len] at h; rw [hj j (by omega), fewL_at vs n j (by omega)])
    rw [this]
    refine Ev.step (f := fun _ => some (fewL vs n)) (fun k => ?_) (Ev.now _)
    rw [spec_l01Fewest.l0, if_neg (by omega)]
  | succ d ih =>
    intro n x hd hnm hx hj
    refine Ev.step (fun k => ?_) (sf_l1 vs hvs hn m n hm (by omega) (fewL vs m) (fun x hx hj => ih (n + 1) x (by omega) (by omega) hx hj) _ 0 (-1) (x.set (n + 1) (-1)) rfl (Nat.zero_le _) (by simpa using hx) (fun j h => ?_) ?_ (fw_succ vs n).symm)
    · rw [spec_l01Fewest.l0, if_pos (by omega), if_pos (by omega), if_pos (by omega), Int.toNat_natCast]; rfl
    · rw [getD_set x (n + 1) j _ (by omega), if_neg (by omega)]; exact hj j h
    · rw [getD_set x (n + 1) (n + 1) _ (by omega), if_pos rfl]
theorem fewestF (vs : List Int) (hvs : InR vs) (hn : vs.length ≤ 1000) (m : Nat) (hm : m ≤ 900000) : Ev (fun k => spec_l01Fewest.f k vs (m : Int)) (fewL vs m) := by
  refine Ev.congr (fun k => ?_) (sf_l0 vs hvs hn m hm _ 0 (List.replicate (m + 1) 0) rfl (Nat.zero_le _) (by simp) (fun j h => ?_))
  · rw [spec_l01Fewest.f, wN m (by omega), if_pos (by omega), Int.toNat_natCast, if_pos (by omega)]; rfl
  · obtain rfl : j = 0 := by omega
    rw [getD_rep _ _ _ (by omega), fw_zero]

end Go.Proofs.Ytaonlhjblocfkaa.Pure
