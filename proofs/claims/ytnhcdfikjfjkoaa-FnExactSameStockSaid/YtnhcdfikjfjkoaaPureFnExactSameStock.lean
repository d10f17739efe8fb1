/- FnExactSameStock returns true at every two stocks; no condition. -/
import Derived.Test.YtnhcdfikjfjkoaaPimplSameStock
import Derived.Test.YtnhcdfikjfjkoaaPspecSameStock
import Derived.Test.YtnhcdfikjfjkoaaQFnExactSameStock
import Derived.Test.YtnhcdfikjfjkoaaXStockB
namespace Go.Proofs.Ytnhcdfikjfjkoaa.Pure
open Go.RowKit Go.Proofs.Ytnhcdfikjfjkoaa.P Go.Proofs.YtnhcdfikjfjkoaaW.PrintWords Go.Proofs.YtnhcdfikjfjkoaaW.PrintLast
set_option linter.unusedVariables false
set_option linter.unusedSimpArgs false

theorem same_l0 (a b : List S56) (hl : a.length = b.length) (hb : a.length ≤ 17592186044415) : ∀ d i, a.length - i = d → i ≤ a.length →
    ∃ r, Ev (fun k => spec_SameStock.l0 k a b (i : Int)) r ∧ Ev (fun k => impl_Stamp_53.l0 k a b (a.length : Int) (i : Int)) r := by
  intro d
  induction d with
  | zero =>
    intro i hd hi
    refine ⟨true, Ev.step (f := fun _ => some true) (fun k => ?_) (Ev.now _), Ev.step (f := fun _ => some true) (fun k => ?_) (Ev.now _)⟩
    · rw [spec_SameStock.l0, if_neg (by omega)]
    · rw [impl_Stamp_53.l0, if_neg (by omega)]
  | succ d ih =>
    intro i hd hi
    by_cases hq : (!(((rd_T56 a (i : Int)).f0) == ((rd_T56 b (i : Int)).f0)) || (!(((rd_T56 a (i : Int)).f1) == ((rd_T56 b (i : Int)).f1)))) = true
    · refine ⟨false, Ev.step (f := fun _ => some false) (fun k => ?_) (Ev.now _), Ev.step (f := fun _ => some false) (fun k => ?_) (Ev.now _)⟩
      · rw [spec_SameStock.l0, if_pos (by omega), if_pos (by omega), if_pos (by omega), if_pos hq]
      · rw [impl_Stamp_53.l0, if_pos (by omega), if_pos (by omega), if_pos (by omega), if_pos (by omega), if_pos hq]
    · obtain ⟨r, h1, h2⟩ := ih (i + 1) (by omega) (by omega)
      refine ⟨r, Ev.step (fun k => ?_) h1, Ev.step (fun k => ?_) h2⟩
      · rw [spec_SameStock.l0, if_pos (by omega), if_pos (by omega), if_pos (by omega), if_neg hq, wN i (by omega)]
      · rw [impl_Stamp_53.l0, if_pos (by omega), if_pos (by omega), if_pos (by omega), if_pos (by omega), if_neg hq, wN i (by omega)]
theorem both_same (a b : List S56) (hb : a.length ≤ 17592186044415) : ∃ r, Ev (fun k => spec_SameStock.f k a b) r ∧ Ev (fun k => impl_SameStock.f k a b) r := by
  by_cases hl : a.length = b.length
  · obtain ⟨r, h1, h2⟩ := same_l0 a b hl hb _ 0 rfl (Nat.zero_le _)
    obtain ⟨K1, h1⟩ := EvG h1
    obtain ⟨K2, h2⟩ := EvG h2
    refine ⟨r, EvI K1 fun k hk => ?_, EvI K2 fun k hk => ?_⟩
    · rw [spec_SameStock.f, if_pos (by omega)]; exact h1 k hk
    · rw [impl_SameStock.f, impl_Stamp_53.f, if_pos (by omega), show (0 : Int) = ((0 : Nat) : Int) from rfl, h2 k hk, Option.bind_some]
  · refine ⟨false, EvI 0 fun k hk => ?_, EvI 0 fun k hk => ?_⟩
    · rw [spec_SameStock.f, if_neg (by omega)]
    · rw [impl_SameStock.f, impl_Stamp_53.f, if_neg (by omega), Option.bind_some]

theorem FnExactSameStock : laws_FnExactSameStock.Pure := by
  intro x y ⟨hx, _⟩ ⟨hy, _⟩
  by_cases h1 : (x.length : Int) ≤ 1048576
  · by_cases h2 : (y.length : Int) ≤ 1048576 - x.length
    · obtain ⟨K1, e1⟩ := EvG (toS x (by omega))
      obtain ⟨K2, e2⟩ := EvG (toS y (by omega))
      obtain ⟨r, h3, h4⟩ := both_same (x.map cv) (y.map cv) (by rw [List.length_map]; omega)
      obtain ⟨K3, h3⟩ := EvG h3
      obtain ⟨K4, h4⟩ := EvG h4
      obtain ⟨K5, h5⟩ := EvG (eqS (x.map cv) (by rw [List.length_map]; omega))
      obtain ⟨K6, h6⟩ := EvG (eqS (y.map cv) (by rw [List.length_map]; omega))
      refine ⟨K1 + K2 + K3 + K4 + K5 + K6, ?_⟩
      rw [laws_FnExactSameStock.f, szS x _ (by omega) (by omega) hx, Option.bind_some, if_pos h1, if_neg (by omega), szS y _ (by omega) (by omega) hy, Option.bind_some, if_pos h2, if_neg (by omega),
        e1 _ (by omega), Option.bind_some, e2 _ (by omega), Option.bind_some, h3 _ (by omega), Option.bind_some, Option.bind_some, Option.bind_some, h4 _ (by omega), Option.bind_some, if_neg (by simp),
        Option.bind_some, h5 _ (by omega), Option.bind_some, if_pos rfl, Option.bind_some, h6 _ (by omega), Option.bind_some, if_pos rfl]
    · exact ⟨0, by rw [laws_FnExactSameStock.f, szS x _ (by omega) (by omega) hx, Option.bind_some, if_pos h1, if_neg (by omega), szS y _ (by omega) (by omega) hy, Option.bind_some, if_neg h2, if_pos (by omega)]⟩
  · exact ⟨0, by rw [laws_FnExactSameStock.f, szS x _ (by omega) (by omega) hx, Option.bind_some, if_neg h1, if_pos (by omega)]⟩

end Go.Proofs.Ytnhcdfikjfjkoaa.Pure
